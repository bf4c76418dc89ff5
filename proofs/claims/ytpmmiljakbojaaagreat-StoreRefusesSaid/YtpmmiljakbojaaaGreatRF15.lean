/- Rows.StoreRefusesSaid -/
import Derived.Test.YtpmmiljakbojaaaGreatRF8
import Derived.Test.YtpmmiljakbojaaaGreatRF3
import Derived.Test.YtpmmiljakbojaaaGreatRF14
import Derived.Deep.QuietTactic
import Derived.BigQuiet
import Derived.WalkSpells
import Derived.Deep.RegionLaw
import Derived.Maps.AppendAt
import Derived.StillTailTactics
import Derived.Deep.RegionHeld3
import Derived.Laws.Externs
import Derived.Shelf.SlMaps.Clone
namespace Go.Proofs.YtpmmiljakbojaaaGreat
open Go.RowKit
open Go.Maps (Keyed)
set_option linter.unusedVariables false
set_option maxHeartbeats 64000000
set_option maxRecDepth 100000
def ekN (x:ByteArray×Nat):Value:=.string x.1
def ptrAt (ads:List Nat) (i:Nat):Value:=.pointer (some ⟨ads.getD i 0,0,none⟩)
def evN (ads:List Nat) (x:ByteArray×Nat):Value:=ptrAt ads x.2
def failV (d:DiskD):Nat:=if d.fail=0 then 0 else d.ops+d.fail
def dkCells (d:DiskD) (bn bs:Nat) (vch:Value):Array Value:=#[.int .i64 d.quota,.map (some bn),.map (some bs),vch,.int .i64 d.ops,.int .i64 (failV d)]
def encC (ads:List Nat):ChgD→List Value
 | .made n f=>[.int .i64 1,.string n,.string ByteArray.empty,ptrAt ads f]
 | .ren a b=>[.int .i64 2,.string a,.string b,.pointer none]
 | .rem n=>[.int .i64 3,.string n,.string ByteArray.empty,.pointer none]
def flatC (ads:List Nat) (l:List ChgD):List Value:=(l.map (encC ads)).flatten
def FileR (a:Nat) (v:Value) (f:FileD):List Asrt:=[Cells a #[v,.int .i64 f.sure] 83,RowA 5 1 v f.b.length (u8s f.b)]
def FileA (a:Nat) (f:FileD):Asrt:=fun w F=>∃ v,Star (FileR a v f) w F
abbrev NTab (b:Nat) (ads:List Nat) (N:NmL):Asrt:=TabA Tryz.prog 9 ekN (evN ads) b N
def filesR (ads:List Nat) (fs:List FileD):List Asrt:=List.zipWith FileA ads fs
def DkR (bd bn bs:Nat) (vch:Value) (ads:List Nat) (d:DiskD):List Asrt:=
 [Cells bd (dkCells d bn bs vch) 64,NTab bn ads d.now,NTab bs ads d.sure,RowA 86 4 vch d.ch.length (flatC ads d.ch)]++filesR ads d.files
def DkA (bd:Nat) (d:DiskD):Asrt:=fun w F=>DiskOk d∧∃ (bn bs:Nat) (vch:Value) (ads:List Nat),ads.length=d.files.length∧Star (DkR bd bn bs vch ads d) w F
theorem FileR.framed {a:Nat} {v:Value} {f:FileD}:∀ A∈FileR a v f,Framed A:=by
 intro A hA
 simp only [FileR,List.mem_cons,List.not_mem_nil,or_false] at hA
 rcases hA with rfl | rfl
 ·exact Cells.framed _ _ _
 ·exact RowA.framed _ _ _ _ _
theorem FileA.framed (a:Nat) (f:FileD):Framed (FileA a f):=by
 refine⟨?_,?_⟩
 ·rintro w w' F ⟨v,h⟩ hk;exact⟨v,(Framed.star FileR.framed).keep h hk⟩
 ·rintro w F ⟨v,h⟩;exact (Framed.star FileR.framed).lt h
theorem filesR.framed {ads:List Nat} {fs:List FileD}:∀ A∈filesR ads fs,Framed A:=by
 induction ads generalizing fs with
 | nil=>intro A hA;simp [filesR] at hA
 | cons a r ih=>
  cases fs with
  | nil=>intro A hA;simp [filesR] at hA
  | cons f fs=>
   intro A hA
   rcases List.mem_cons.1 (show A∈FileA a f::filesR r fs from hA) with rfl | hA
   ·exact FileA.framed _ _
   ·exact ih A hA
theorem DkR.framed {bd bn bs:Nat} {vch:Value} {ads:List Nat} {d:DiskD}:∀ A∈DkR bd bn bs vch ads d,Framed A:=by
 intro A hA
 unfold DkR at hA
 rcases List.mem_append.1 hA with hA | hA
 ·simp only [List.mem_cons,List.not_mem_nil,or_false] at hA
  rcases hA with rfl | rfl | rfl | rfl
  ·exact Cells.framed _ _ _
  ·exact TabA.framed _ _
  ·exact TabA.framed _ _
  ·exact RowA.framed _ _ _ _ _
 ·exact filesR.framed _ hA
theorem DkA.framed (bd:Nat) (d:DiskD):Framed (DkA bd d):=by
 refine⟨?_,?_⟩
 ·rintro w w' F ⟨h0,bn,bs,vch,ads,ha,h⟩ hk;exact⟨h0,bn,bs,vch,ads,ha,(Framed.star DkR.framed).keep h hk⟩
 ·rintro w F ⟨h0,bn,bs,vch,ads,ha,h⟩;exact (Framed.star DkR.framed).lt h
theorem dk_close {F:List Nat} {w w':World} {bd bn bs:Nat} {vch:Value} {ads:List Nat} {d':DiskD} {r:Value} (h:In F w w' (DkR bd bn bs vch ads d')) (hok:DiskOk d') (hl:ads.length=d'.files.length):GV r (DkA bd d') w F (.returned r) w':=
 GV.mk h fun F' hs=>⟨hok,bn,bs,vch,ads,hl,hs⟩
theorem dkR_cells {bd bn bs:Nat} {vch:Value} {ads:List Nat} {d:DiskD}:(DkR bd bn bs vch ads d)[0]?=some (Cells bd (dkCells d bn bs vch) 64):=rfl
theorem dkR_now {bd bn bs:Nat} {vch:Value} {ads:List Nat} {d:DiskD}:(DkR bd bn bs vch ads d)[1]?=some (NTab bn ads d.now):=rfl
theorem filesR_at {ads:List Nat} {fs:List FileD} (hl:ads.length=fs.length) {i:Nat} (hi:i < fs.length):(filesR ads fs)[i]?=some (FileA (ads.getD i 0) (fs.getD i default)):=by
 unfold filesR
 have h1:ads[i]?=some (ads.getD i 0):=by rw [List.getD_eq_getElem?_getD,List.getElem?_eq_getElem (by omega)];rfl
 have h2:fs[i]?=some (fs.getD i default):=by rw [List.getD_eq_getElem?_getD,List.getElem?_eq_getElem hi];rfl
 rw [List.getElem?_zipWith,h1,h2]
theorem dkR_file {bd bn bs:Nat} {vch:Value} {ads:List Nat} {d:DiskD} (hl:ads.length=d.files.length) {i:Nat} (hi:i < d.files.length):(DkR bd bn bs vch ads d)[4+i]?=some (FileA (ads.getD i 0) (d.files.getD i default)):=by
 unfold DkR
 rw [List.getElem?_append_right (by simp)]
 simpa using filesR_at hl hi
theorem filesR_set {ads:List Nat} {fs:List FileD} (hl:ads.length=fs.length) {i:Nat} (hi:i < fs.length) (f:FileD):(filesR ads fs).set i (FileA (ads.getD i 0) f)=filesR ads (fs.set i f):=by
 apply List.ext_getElem?
 intro j
 have hlen:(filesR ads fs).length=fs.length:=by unfold filesR;rw [List.length_zipWith];omega
 by_cases hj:j < fs.length
 ·rw [filesR_at (by simp;omega) (by simpa using hj),List.getElem?_set,filesR_at hl hj,set_default hi]
  by_cases e:i=j
  ·subst e;simp [hlen,hi]
  ·rw [if_neg e,if_neg (fun e2=>e e2.symm)]
 ·rw [List.getElem?_eq_none (by simp [hlen];omega),List.getElem?_eq_none (by unfold filesR;rw [List.length_zipWith];simp;omega)]
theorem dkR_set {bd bn bs:Nat} {vch:Value} {ads:List Nat} {d:DiskD} (hl:ads.length=d.files.length) {i:Nat} (hi:i < d.files.length) (f:FileD):(DkR bd bn bs vch ads d).set (4+i) (FileA (ads.getD i 0) f)=DkR bd bn bs vch ads (dSet d i f):=by
 unfold DkR
 rw [List.set_append_right (4+i) _ (by simp)]
 simp only [List.length_cons,List.length_nil,Nat.zero_add,Nat.reduceAdd,Nat.add_sub_cancel_left]
 rw [filesR_set hl hi]
 rfl
theorem In.file {F0:List Nat} {w0 w:World} {R:List Asrt} {a:Nat} {f:FileD} (h:In F0 w0 w R) (i:Nat) (hA:R[i]?=some (FileA a f)):∃ v,In F0 w0 w (RowA 5 1 v f.b.length (u8s f.b)::R.set i (Cells a #[v,.int .i64 f.sure] 83)):=by
 obtain⟨v,h1⟩:=h.ex (G:=fun v=>Star (FileR a v f)) i hA (fun v=>Framed.star FileR.framed)
 refine⟨v,?_⟩
 have hi:=(List.getElem?_eq_some_iff.1 hA).1
 have:=h1.split (A:=Cells a #[v,.int .i64 f.sure] 83) (B:=RowA 5 1 v f.b.length (u8s f.b)) i (by simp [hi,FileR]) (Cells.framed _ _ _) (RowA.framed _ _ _ _ _)
 rwa [List.set_set] at this
theorem In.unfile {F0:List Nat} {w0 w:World} {R:List Asrt} {a:Nat} {v:Value} {f:FileD} (h:In F0 w0 w (RowA 5 1 v f.b.length (u8s f.b)::R)) (i:Nat) (hA:R[i]?=some (Cells a #[v,.int .i64 f.sure] 83)):In F0 w0 w (R.set i (FileA a f)):=
 h.fold i hA (FileA.framed _ _) fun F hF=>⟨v,hF⟩
theorem file_at {F0:List Nat} {w0 w:World} {R:List Asrt} {a:Nat} {f:FileD} (h:In F0 w0 w R) (i:Nat) (hA:R[i]?=some (FileA a f)):∃ ad cap,w.heap[a]?=some (.cells #[.slice ad f.b.length cap,.int .i64 f.sure] 83 (0,0))∧f.b.length≤cap∧cap≤maxLen∧Src w ad f.b.length 1 (u8s f.b):=by
 obtain⟨v,h1⟩:=h.file i hA
 have hi:=(List.getElem?_eq_some_iff.1 hA).1
 obtain⟨F,hr⟩:=h1.get 0 rfl
 obtain⟨ad,cap,rfl,k1,k2,k3⟩:=hr.shape
 exact⟨ad,cap,h1.block (i+1) (by simp [hi]),k1,k2,hr.all⟩
theorem ptrAt_more {ads:List Nat} {i:Nat} (h:i < ads.length) (a:Nat):ptrAt (ads++[a]) i=ptrAt ads i:=by
 unfold ptrAt
 rw [List.getD_eq_getElem?_getD,List.getD_eq_getElem?_getD,List.getElem?_append_left h]
theorem TabA.ev {α:Type} {P:Program} {kt:TypeId} {ek ev ev':α→Value} {b:Nat} {L:List α} {w:World} {F:List Nat} (h:TabA P kt ek ev b L w F) (he:∀ x∈L,ev' x=ev x):TabA P kt ek ev' b L w F:=
 ⟨h.1,h.2.congr (fun k v=>⟨fun ⟨x,hx,e1,e2⟩=>⟨x,hx,e1,by rw [← he x hx];exact e2⟩,fun ⟨x,hx,e1,e2⟩=>⟨x,hx,e1,by rw [he x hx];exact e2⟩⟩)⟩
theorem flatC_append (ads:List Nat) (l l':List ChgD):flatC ads (l++l')=flatC ads l++flatC ads l':=by simp [flatC]
def chIds (k:Nat):ChgD→Prop
 | .made _ f=>f < k
 | _=>True
theorem flatC_more {ads:List Nat} {l:List ChgD} (h:∀ c∈l,chIds ads.length c) (a:Nat):flatC (ads++[a]) l=flatC ads l:=by
 unfold flatC
 congr 1
 apply List.map_congr_left
 intro c hc
 have:=h c hc
 cases c with
 | made n f=>simp only [encC];rw [ptrAt_more this]
 | ren _ _=>rfl
 | rem _=>rfl
theorem hist_ids {N M:NmL} {l:List ChgD} {k:Nat} (h:Hist N l M k):∀ c∈l,chIds k c:=by
 induction l generalizing N with
 | nil=>intro c hc;simp at hc
 | cons c r ih=>
  intro c' hc'
  rcases List.mem_cons.1 hc' with rfl | hc'
  ·cases c' with
   | made n f=>
    have:=(hist_files h.2.2).lt (n,f) (nmPut_mem.2 (Or.inl rfl))
    exact this
   | ren _ _=>trivial
   | rem _=>trivial
  ·exact ih h.2.2 c' hc'
theorem strKey:Keyed Tryz.prog 9:=Go.Maps.string_keyed Tryz.underlying9
theorem ekN_inj {N:NmL} (h:NmRow N):(N.map ekN).Nodup:=by
 have:N.map ekN=(N.map (·.1)).map Value.string:=by rw [List.map_map];rfl
 rw [this]
 exact List.pairwise_map.2 (h.keys.imp (fun {a b} hne e=>hne (by cases e;rfl)))
section
variable {F0:List Nat} {w0 w:World} {R:List Asrt}
def tickE (d:DiskD):Int:=if dFails d then 8 else 0
theorem failV_fails {d:DiskD} (h:dFails d):failV d=d.ops+1:=by unfold dFails at h;simp [failV,h]
theorem failV_not {d:DiskD} (h:¬ dFails d):failV d≠d.ops+1:=by unfold dFails at h;unfold failV;split <;> omega
theorem failV_tick {d:DiskD}:failV (dTick d)=if dFails d then 0 else failV d:=by
 by_cases h:dFails d
 ·rw [if_pos h];unfold dFails at h;simp [failV,dTick,h]
 ·rw [if_neg h];unfold dFails at h
  by_cases h0:d.fail=0
  ·simp [failV,dTick,h0]
  ·have h1:¬ d.fail - 1=0:=by omega
   simp only [failV,dTick,h0,h1,if_false];omega
theorem failV_le {d:DiskD} (h:DiskOk d) (ho:d.ops≤100000000):failV d≤4700000000000000000:=by
 have:=h.fail;unfold failV;split <;> omega
def BeginPost (d:DiskD) (bd bn bs:Nat) (vch:Value) (i:Nat) (F0:List Nat) (w0:World) (R:List Asrt) (e:Ending) (w':World):Prop:=
 e=.returned (.int .i64 (tickE d))∧In F0 w0 w' (R.set i (Cells bd (dkCells (dTick d) bn bs vch) 64))
theorem dk_begin {d:DiskD} {bd bn bs:Nat} {vch:Value} (h:In F0 w0 w R) (i:Nat) (hA:R[i]?=some (Cells bd (dkCells d bn bs vch) 64)) (hok:DiskOk d) (ho:d.ops≤100000000) :
  Calls Tryz.prog 132 #[.pointer (some ⟨bd,0,none⟩)] w (BeginPost d bd bn bs vch i F0 w0 R):=by
 have hi:=(List.getElem?_eq_some_iff.1 hA).1
 have hfl:=failV_le hok ho
 have c4:w.cell? ⟨bd,4,none⟩=some (.int .i64 d.ops):=cell_of (h.block i hA) rfl
 have f4:w.frozen? ⟨bd,4,none⟩=false:=free_of (h.block i hA)
 have h1:=h.put i hA 4 (.int .i64 (d.ops+1))
 have hA1:(R.set i (Cells bd ((dkCells d bn bs vch).setIfInBounds 4 (.int .i64 (d.ops+1))) 64))[i]?=some (Cells bd ((dkCells d bn bs vch).setIfInBounds 4 (.int .i64 (d.ops+1))) 64):=by simp [hi]
 have d4:∀ n,((w.setCell ⟨bd,4,none⟩ (.int .i64 (d.ops+1))).drewN n).cell? ⟨bd,4,none⟩=some (.int .i64 (d.ops+1)):=fun n=>cell_of ((h1.drewN n).block i hA1) rfl
 have d5:∀ n,((w.setCell ⟨bd,4,none⟩ (.int .i64 (d.ops+1))).drewN n).cell? ⟨bd,5,none⟩=some (.int .i64 (failV d)):=fun n=>cell_of ((h1.drewN n).block i hA1) rfl
 have f5:∀ n,((w.setCell ⟨bd,4,none⟩ (.int .i64 (d.ops+1))).drewN n).frozen? ⟨bd,5,none⟩=false:=fun n=>free_of ((h1.drewN n).block i hA1)
 by_cases hf:dFails d
 ·have hfv:=failV_fails hf
  have HP:Hid (∀ n,BeginPost d bd bn bs vch i F0 w0 R (.returned (.int .i64 8)) (((w.setCell ⟨bd,4,none⟩ (.int .i64 (d.ops+1))).drewN n).setCell ⟨bd,5,none⟩ (.int .i64 0))):=Lib.hid fun n=>by
   refine⟨by rw [tickE,if_pos hf],?_⟩
   have h2:=(h1.drewN n).put i hA1 5 (.int .i64 0)
   rw [List.set_set] at h2
   have e:((dkCells d bn bs vch).setIfInBounds 4 (.int .i64 (d.ops+1))).setIfInBounds 5 (.int .i64 0)=dkCells (dTick d) bn bs vch:=by
    unfold dkCells;rw [failV_tick,if_pos hf];rfl
   rwa [e] at h2
  have q:((d.ops:Int)+1 == (failV d:Int))=true:=by rw [hfv];simp
  clear h h1 hA hA1 hi hok hf hfv
  generalize failV d=fv at *
  go_enter Tryz.func132,Tryz.ntmps132
  go_wp2_with fail
  go_quiet (fail)
  go_wp2_with fail
  go_ret
  exact HP.out _
 ·have hfv:=failV_not hf
  have HP:Hid (∀ n,BeginPost d bd bn bs vch i F0 w0 R (.returned (.int .i64 0)) ((w.setCell ⟨bd,4,none⟩ (.int .i64 (d.ops+1))).drewN n)):=Lib.hid fun n=>by
   refine⟨by rw [tickE,if_neg hf],?_⟩
   have h2:=h1.drewN n
   have e:(dkCells d bn bs vch).setIfInBounds 4 (.int .i64 (d.ops+1))=dkCells (dTick d) bn bs vch:=by
    unfold dkCells;rw [failV_tick,if_neg hf];rfl
   rwa [e] at h2
  have q:((d.ops:Int)+1 == (failV d:Int))=false:=by
   rw [beq_eq_false_iff_ne];omega
  clear h h1 hA hA1 hi hok hf hfv
  generalize failV d=fv at *
  go_enter Tryz.func132,Tryz.ntmps132
  go_wp2_with fail
  go_quiet (fail)
  go_wp2_with fail
  go_ret
  exact HP.out _
theorem dk_named (n:ByteArray) (hn:n.size≤maxLen) (w:World):Calls Tryz.prog 133 #[.string n] w fun e w'=>e=.returned (.bool (namedB n))∧w'=w:=by
 unfold maxLen at hn
 have HB:Hid (namedB n=(decide (1≤n.size) && decide (n.size≤16))):=Lib.hid (by unfold namedB;rw [Bool.decide_and])
 generalize namedB n=nb at *
 generalize hs:n.size=s at *
 by_cases h1:1≤s
 ·by_cases h2:s≤16
  ·have HN:Hid (nb=true):=Lib.hid (by rw [HB.out];simp [h1,h2])
   go_enter Tryz.func133,Tryz.ntmps133
   go_wp2_with fail
   go_ret
   exact⟨by rw [HN.out];simp;omega,rfl⟩
  ·have HN:Hid (nb=false):=Lib.hid (by rw [HB.out];simp [h2])
   go_enter Tryz.func133,Tryz.ntmps133
   go_wp2_with fail
   go_ret
   exact⟨by rw [HN.out];simp;omega,rfl⟩
 ·have HN:Hid (nb=false):=Lib.hid (by rw [HB.out];simp [h1])
  go_enter Tryz.func133,Tryz.ntmps133
  go_wp2_with fail
  go_ret
  exact⟨by rw [HN.out];simp,rfl⟩
end
def lenSum (d:DiskD) (l:NmL):Nat:=(l.map (fun x=>flen d x.2)).sum
theorem lenSum_snoc (d:DiskD) (l:NmL) (x:ByteArray×Nat):lenSum d (l++[x])=lenSum d l+flen d x.2:=by simp [lenSum]
theorem lenSum_perm {d:DiskD} {l l':NmL} (h:l.Perm l'):lenSum d l=lenSum d l':=(h.map _).sum_nat
theorem flen_le {d:DiskD} (h:DiskOk d) (i:Nat):flen d i≤1048576:=by
 unfold flen
 by_cases hi:i < d.files.length
 ·exact (h.file _ (getD_mem hi)).1
 ·rw [List.getD_eq_getElem?_getD,List.getElem?_eq_none (by omega)];simp [default,instInhabitedFileD.default]
theorem lenSum_le {d:DiskD} (h:DiskOk d):∀ (l:NmL),lenSum d l≤l.length * 1048576
 | []=>by simp [lenSum]
 | x::r=>by
  have:=lenSum_le h r
  have:=flen_le h x.2
  have e:lenSum d (x::r)=flen d x.2+lenSum d r:=by simp [lenSum]
  rw [e,List.length_cons];omega
theorem nodup_sub_length {α:Type} [DecidableEq α]:∀ {l m:List α},l.Nodup→(∀ x∈l,x∈m)→l.length≤m.length
 | [],_,_,_=>Nat.zero_le _
 | x::r,m,hn,hs=>by
  obtain⟨h1,h2⟩:=List.nodup_cons.1 hn
  have ih:=nodup_sub_length (m:=m.filter (fun y=>decide (y≠x))) h2 (fun y hy=>List.mem_filter.2 ⟨hs y (List.mem_cons_of_mem _ hy),by simpa using fun e=>h1 (by rw [← e];exact hy)⟩)
  have:(m.filter (fun y=>decide (y≠x))).length < m.length:=by
   refine Nat.lt_of_le_of_ne (List.length_filter_le _ _) (fun e=>?_)
   have:=List.length_filter_eq_length_iff.1 e x (hs x (by simp))
   simp at this
  rw [List.length_cons];omega
def SizeRel (d:DiskD) (bd bn bs:Nat) (vch:Value) (ads:List Nat) (r:Nat) (F0:List Nat) (w0:World) (n:Value) (wr:World):Prop:=
 ∃ done:NmL,n=.int .i64 (lenSum d done)∧done.Nodup∧(∀ x∈done,x∈d.now)∧In F0 w0 wr ((DkR bd bn bs vch ads d).set 1 (IterA Tryz.prog 9 ekN (evN ads) bn r d.now done))
section
variable {F0:List Nat} {w0 w:World}
theorem dk_size {d:DiskD} {bd bn bs:Nat} {vch:Value} {ads:List Nat} (h:In F0 w0 w (DkR bd bn bs vch ads d)) (hok:DiskOk d) (hl:ads.length=d.files.length) :
  Calls Tryz.prog 158 #[.pointer (some ⟨bd,0,none⟩)] w fun e w'=>e=.returned (.int .i64 (dSize d))∧In F0 w0 w' (DkR bd bn bs vch ads d):=by
 have c1:w.cell? ⟨bd,1,none⟩=some (.map (some bn)):=cell_of (h.block 0 dkR_cells) rfl
 obtain⟨o,hrg,h1⟩:=tab_range h 1 dkR_now (ekN_inj hok.now.row) Tryz.underlying61
 have HS:Hid (SizeRel d bd bn bs vch ads w.heap.size F0 w0 (.int .i64 0) (w.alloc o)):=Lib.hid ⟨[],rfl,List.nodup_nil,by simp,h1⟩
 have HOK:=Lib.hid hok
 have HL:=Lib.hid hl
 clear h h1 hok hl
 go_enter Tryz.func158,Tryz.ntmps158
 go_wp2_with fail
 go_loopw [3] (SizeRel d bd bn bs vch ads w.heap.size F0 w0) (fun _ wr=>wr.rangeLeft bn w.heap.size)
 case atStart=>exact HS.out
 case round=>
  obtain⟨done,rfl,hnd,hsub,ho⟩:=hrel
  clear HS hrg c1
  have hle:=lenSum_le HOK.out done
  have hdl:done.length≤200:=Nat.le_trans (nodup_sub_length hnd hsub) HOK.out.now.few
  rcases tab_next ho 1 rfl 0 with ⟨hp,hrun⟩|⟨y,hy,hyd,w',hrun,ho2,hlt,hen⟩
  ·have HP:Hid ((Ending.returned (.int .i64 (lenSum d done))=Ending.returned (.int .i64 (dSize d)))∧In F0 w0 wr (DkR bd bn bs vch ads d)):=Lib.hid ⟨by rw [lenSum_perm hp];rfl,tab_done ho 1 rfl⟩
   clear ho hp hnd hsub
   go_wp2_with fail
   go_ret
   exact HP.out
  ·have hyl:=HOK.out.now.lt y hy
   obtain⟨ad,cap,hb,-,-,-⟩:=file_at (a:=ads.getD y.2 0) (f:=d.files.getD y.2 default) ho2 (4+y.2) (by
    rw [List.set_set,List.getElem?_set_ne (by omega)]
    exact dkR_file HL.out hyl)
   have cF:w'.cell? ⟨ads.getD y.2 0,0,none⟩=some (.slice ad (flen d y.2) cap):=cell_of hb rfl
   have hfl:=flen_le HOK.out y.2
   have HR:Hid (SizeRel d bd bn bs vch ads w.heap.size F0 w0 (.int .i64 (lenSum d done+flen d y.2)) w'):=Lib.hid ⟨done++[y],by rw [lenSum_snoc];congr 1,List.nodup_append.2 ⟨hnd,by simp,fun a ha b hb'=>by simp at hb';subst hb';exact fun e=>hyd (e ▸ ha)⟩,fun x hx=>by
    rcases List.mem_append.1 hx with hx | hx
    ·exact hsub x hx
    ·simp at hx;subst hx;exact hy,by rw [List.set_set] at ho2;exact ho2⟩
   unfold evN ptrAt at hrun hen
   generalize ads.getD y.2 0=af at *
   generalize flen d y.2=fl at *
   generalize lenSum d done=ls at *
   clear ho ho2 hb hnd hsub hyd hy
   go_wp2_with fail
   go_roundw
   case rel=>exact HR.out
   case measure=>exact hlt
end
section
variable {F0:List Nat} {w0 w:World} {R:List Asrt}
def lookV (ads:List Nat) (o:Option Nat):Value:=match o with
 | some f=>ptrAt ads f
 | none=>.pointer none
theorem zero_pfile (w:World):(zeroValue 80).run Tryz.prog w=.ok (.pointer none) w:=by kernel_rfl
theorem nm_look {N:NmL} {b:Nat} {ads:List Nat} (h:In F0 w0 w R) (i:Nat) (hA:R[i]?=some (NTab b ads N)) (hN:NmRow N) {n:ByteArray} (hn:n.size≤maxLen) :
  (Instr.lookup 61 (.map (some b)) (.string n) false).run Tryz.prog w=.ok (lookV ads (nmAt N n)) w:=by
 rcases tab_look h i hA strKey Tryz.underlying61 (zero_pfile w) (Go.WideMaps.keyOf_string_mk Tryz.underlying9 hn) false with ⟨x,hx,e,hr⟩|⟨hno,hr⟩
 ·have e2:nmAt N n=some x.2:=(nmAt_some hN.keys).2 (by cases e;exact hx)
  rw [e2];exact hr
 ·have e2:nmAt N n=none:=nmAt_none.2 (fun x hx e=>hno x hx (by rw [← e];rfl))
  rw [e2];exact hr
theorem dk_room_some {d:DiskD} {bd bn bs:Nat} {vch:Value} {ads:List Nat} (h:In F0 w0 w (DkR bd bn bs vch ads d)) (hok:DiskOk d) (hl:ads.length=d.files.length) {i:Nat} (hi:i < d.files.length) {k:Nat} (hk:k≤100000000) :
  Calls Tryz.prog 134 #[.pointer (some ⟨bd,0,none⟩),ptrAt ads i,.int .i64 k] w fun e w'=>e=.returned (.bool (dRoom d (some i) k))∧In F0 w0 w' (DkR bd bn bs vch ads d):=by
 obtain⟨ad,cap,hb,-,-,-⟩:=file_at h (4+i) (dkR_file hl hi)
 have cF:w.cell? ⟨ads.getD i 0,0,none⟩=some (.slice ad (flen d i) cap):=cell_of hb rfl
 have HC:=Lib.hid (dk_size h hok hl)
 have hfl:=flen_le hok i
 have hq:=hok.quota
 have hsz:dSize d≤209715200:=by
  have h1:=lenSum_le hok d.now
  have h2:=hok.now.few
  have h3:dSize d=lenSum d d.now:=rfl
  omega
 have HB:Hid (dRoom d (some i) k=(decide (dSize d≤d.quota) && decide (k+dSize d≤d.quota) && decide (k+flen d i≤1048576))):=Lib.hid (by
  unfold dRoom;simp only [reduceCtorEq,false_implies,and_true,Bool.decide_and,Bool.and_assoc])
 have c0:∀ w',In F0 w0 w' (DkR bd bn bs vch ads d)→w'.cell? ⟨bd,0,none⟩=some (.int .i64 d.quota):=fun w' h'=>cell_of (h'.block 0 dkR_cells) rfl
 have C0:=Lib.hid c0
 clear h hb c0
 unfold ptrAt
 generalize ads.getD i 0=af at *
 generalize flen d i=fl at *
 generalize dRoom d (some i) k=rm at *
 go_enter Tryz.func134,Tryz.ntmps134
 go_wp2_with fail
 refine HC.out.mono ?_
 rintro e w1 ⟨rfl,ho⟩
 have c0:=C0.out w1 ho
 have HO:=Lib.hid ho
 generalize dSize d=sz at *
 generalize d.quota=q at *
 clear ho HC C0
 have HB1:Hid (rm=(decide (sz≤q) && decide (k+sz≤q) && decide (k+fl≤1048576))):=HB
 clear HB
 by_cases h1:sz≤q
 ·by_cases h2:k+sz≤q
  ·by_cases h3:k+fl≤1048576
   ·have e1:decide (q < sz)=false:=by simp;omega
    have e2:decide ((q:Int) - (sz:Int) < (k:Int))=false:=by simp;omega
    have e3:decide ((1048576:Int) - (fl:Int) < (k:Int))=false:=by simp;omega
    have hr:rm=true:=by rw [HB1.out];simp [h1,h2,h3]
    clear HB1
    have HR:=Lib.hid hr
    clear hr
    go_wp2_with fail
    go_ret
    exact⟨by rw [HR.out];rfl,HO.out⟩
   ·have e1:decide (q < sz)=false:=by simp;omega
    have e2:decide ((q:Int) - (sz:Int) < (k:Int))=false:=by simp;omega
    have e3:decide ((1048576:Int) - (fl:Int) < (k:Int))=true:=by simp;omega
    have hr:rm=false:=by rw [HB1.out];simp [h3]
    clear HB1
    have HR:=Lib.hid hr
    clear hr
    go_wp2_with fail
    go_ret
    exact⟨by rw [HR.out];rfl,HO.out⟩
  ·have e1:decide (q < sz)=false:=by simp;omega
   have e2:decide ((q:Int) - (sz:Int) < (k:Int))=true:=by simp;omega
   have hr:rm=false:=by rw [HB1.out];simp [h2]
   clear HB1
   have HR:=Lib.hid hr
   clear hr
   go_wp2_with fail
   go_ret
   exact⟨by rw [HR.out];rfl,HO.out⟩
 ·have e1:decide (q < sz)=true:=by simp;omega
  have hr:rm=false:=by rw [HB1.out];simp [h1]
  clear HB1
  have HR:=Lib.hid hr
  clear hr
  go_wp2_with fail
  go_ret
  exact⟨by rw [HR.out];rfl,HO.out⟩
theorem dk_room_none {d:DiskD} {bd bn bs:Nat} {vch:Value} {ads:List Nat} (h:In F0 w0 w (DkR bd bn bs vch ads d)) (hok:DiskOk d) (hl:ads.length=d.files.length) {k:Nat} (hk:k≤100000000) :
  Calls Tryz.prog 134 #[.pointer (some ⟨bd,0,none⟩),.pointer none,.int .i64 k] w fun e w'=>e=.returned (.bool (dRoom d none k))∧In F0 w0 w' (DkR bd bn bs vch ads d):=by
 have HC:=Lib.hid (dk_size h hok hl)
 have hq:=hok.quota
 have hsz:dSize d≤209715200:=by
  have h1:=lenSum_le hok d.now
  have h2:=hok.now.few
  have h3:dSize d=lenSum d d.now:=rfl
  omega
 have HB:Hid (dRoom d none k=(decide (dSize d≤d.quota) && decide (k+dSize d≤d.quota) && decide (k≤1048576) && decide (d.now.length < 200))):=Lib.hid (by
  unfold dRoom;simp only [Nat.add_zero,true_implies,Bool.decide_and,Bool.and_assoc])
 have c0:∀ w',In F0 w0 w' (DkR bd bn bs vch ads d)→w'.cell? ⟨bd,0,none⟩=some (.int .i64 d.quota)∧w'.cell? ⟨bd,1,none⟩=some (.map (some bn))∧(Builtin.len_ #[61] 3 #[.map (some bn)]).run Tryz.prog w'=.ok (.int .i64 d.now.length) w':=
  fun w' h'=>⟨cell_of (h'.block 0 dkR_cells) rfl,cell_of (h'.block 0 dkR_cells) rfl,tab_len h' 1 dkR_now Tryz.underlying61 3⟩
 have C0:=Lib.hid c0
 have hnl:=hok.now.few
 clear h c0
 generalize dRoom d none k=rm at *
 go_enter Tryz.func134,Tryz.ntmps134
 go_wp2_with fail
 refine HC.out.mono ?_
 rintro e w1 ⟨rfl,ho⟩
 obtain⟨c0,c1,c2⟩:=C0.out w1 ho
 have HO:=Lib.hid ho
 generalize dSize d=sz at *
 generalize d.quota=q at *
 generalize d.now.length=nl at *
 clear ho HC C0
 have HB1:Hid (rm=(decide (sz≤q) && decide (k+sz≤q) && decide (k≤1048576) && decide (nl < 200))):=HB
 clear HB
 by_cases h1:sz≤q
 ·have e1:decide (q < sz)=false:=by simp;omega
  by_cases h2:k+sz≤q
  ·have e2:decide ((q:Int) - (sz:Int) < (k:Int))=false:=by simp;omega
   by_cases h3:k≤1048576
   ·have e3:decide ((1048576:Int) < (k:Int))=false:=by simp;omega
    have hr:rm=decide (nl < 200):=by rw [HB1.out];simp [h1,h2,h3]
    clear HB1
    have HR:=Lib.hid hr
    clear hr
    go_wp2_with fail
    go_ret
    exact⟨by rw [HR.out];simp;try omega,HO.out⟩
   ·have e3:decide ((1048576:Int) < (k:Int))=true:=by simp;omega
    have hr:rm=false:=by rw [HB1.out];simp [h3]
    clear HB1
    have HR:=Lib.hid hr
    clear hr
    go_wp2_with fail
    go_ret
    exact⟨by rw [HR.out];rfl,HO.out⟩
  ·have e2:decide ((q:Int) - (sz:Int) < (k:Int))=true:=by simp;omega
   have hr:rm=false:=by rw [HB1.out];simp [h2]
   clear HB1
   have HR:=Lib.hid hr
   clear hr
   go_wp2_with fail
   go_ret
   exact⟨by rw [HR.out];rfl,HO.out⟩
 ·have e1:decide (q < sz)=true:=by simp;omega
  have hr:rm=false:=by rw [HB1.out];simp [h1]
  clear HB1
  have HR:=Lib.hid hr
  clear hr
  go_wp2_with fail
  go_ret
  exact⟨by rw [HR.out];rfl,HO.out⟩
end
section
variable {F0:List Nat} {w0 w:World} {R:List Asrt}
def findE (d:DiskD) (n:ByteArray):Int:=if dFails d then 8 else if (nmAt d.now n).isSome then 0 else 6
def findV (ads:List Nat) (d:DiskD) (n:ByteArray):Value:=if dFails d then .pointer none else lookV ads (nmAt d.now n)
def FindPost (d:DiskD) (n:ByteArray) (bd bn bs:Nat) (vch:Value) (ads:List Nat) (F0:List Nat) (w0:World) (e:Ending) (w':World):Prop:=
 e=.returned (.tuple #[findV ads d n,.int .i64 (findE d n)])∧In F0 w0 w' (DkR bd bn bs vch ads (dTick d))
theorem dkR_tick {bd bn bs:Nat} {vch:Value} {ads:List Nat} {d:DiskD}:(DkR bd bn bs vch ads d).set 0 (Cells bd (dkCells (dTick d) bn bs vch) 64)=DkR bd bn bs vch ads (dTick d):=rfl
theorem dk_find {d:DiskD} {bd bn bs:Nat} {vch:Value} {ads:List Nat} (h:In F0 w0 w (DkR bd bn bs vch ads d)) (hok:DiskOk d) (ho:d.ops≤100000000) (n:ByteArray) (hn:n.size≤maxLen) :
  Calls Tryz.prog 101 #[.pointer (some ⟨bd,0,none⟩),.string n] w (FindPost d n bd bn bs vch ads F0 w0):=by
 have HC:=Lib.hid (dk_begin h 0 dkR_cells hok ho)
 have HOK:=Lib.hid hok
 clear h hok
 by_cases hf:dFails d
 ·have HP:Hid (∀ w',In F0 w0 w' (DkR bd bn bs vch ads (dTick d))→FindPost d n bd bn bs vch ads F0 w0 (.returned (.tuple #[.pointer none,.int .i64 8])) w'):=
   Lib.hid fun w' h'=>⟨by rw [findV,findE,if_pos hf,if_pos hf],h'⟩
  have HE:Hid (tickE d=8):=Lib.hid (by rw [tickE,if_pos hf])
  clear hf
  go_enter Tryz.func101,Tryz.ntmps101
  go_wp2_with fail
  refine HC.out.mono ?_
  rintro e w1 ⟨rfl,h1⟩
  rw [dkR_tick] at h1
  rw [HE.out]
  have H1:=Lib.hid h1
  clear h1 HC
  go_wp2_with fail
  go_ret2
  exact HP.out _ H1.out
 ·have HE:Hid (tickE d=0):=Lib.hid (by rw [tickE,if_neg hf])
  have HP:Hid (∀ w' r,In F0 w0 w' (DkR bd bn bs vch ads (dTick d))→r=lookV ads (nmAt d.now n)→FindPost d n bd bn bs vch ads F0 w0 (.returned (.tuple #[r,.int .i64 (if (nmAt d.now n).isSome then 0 else 6)])) w'):=
   Lib.hid fun w' r h' hr=>⟨by rw [findV,findE,if_neg hf,if_neg hf,hr],h'⟩
  have C:Hid (∀ w',In F0 w0 w' (DkR bd bn bs vch ads (dTick d))→w'.cell? ⟨bd,1,none⟩=some (.map (some bn))∧(Instr.lookup 61 (.map (some bn)) (.string n) false).run Tryz.prog w'=.ok (lookV ads (nmAt d.now n)) w'):=
   Lib.hid fun w' h'=>⟨cell_of (h'.block 0 dkR_cells) rfl,nm_look h' 1 dkR_now HOK.out.now.row hn⟩
  clear hf
  go_enter Tryz.func101,Tryz.ntmps101
  go_wp2_with fail
  refine HC.out.mono ?_
  rintro e w1 ⟨rfl,h1⟩
  rw [dkR_tick] at h1
  rw [HE.out]
  obtain⟨c1,c2⟩:=C.out w1 h1
  have H1:=Lib.hid h1
  clear h1 HC C
  cases e2:nmAt d.now n with
  | none=>
   rw [e2] at c2
   have HF:=Lib.hid (HP.out w1 (.pointer none) H1.out (by rw [e2];rfl))
   rw [e2] at HF
   clear HP e2
   simp only [lookV] at c2
   go_wp2_with fail
   go_ret2
   exact HF.out
  | some i=>
   rw [e2] at c2
   have HF:=Lib.hid (HP.out w1 (ptrAt ads i) H1.out (by rw [e2];rfl))
   rw [e2] at HF
   clear HP e2
   simp only [lookV] at c2
   unfold ptrAt at c2 HF
   go_wp2_with fail
   go_ret2
   exact HF.out
def aggC (ads:List Nat) (c:ChgD):Value:=.agg (encC ads c).toArray
theorem nm_put {N:NmL} {b:Nat} {ads:List Nat} (h:In F0 w0 w R) (i:Nat) (hA:R[i]?=some (NTab b ads N)) (hN:NmRow N) {n:ByteArray} (hn:n.size≤maxLen) (f:Nat) :
  ∃ w',(Instr.mapUpdate 61 (.map (some b)) (.string n) (ptrAt ads f)).run Tryz.prog w=.ok () w'∧Turn b w w'∧In F0 w0 w' (R.set i (NTab b ads (nmPut N n f))):=by
 have hi:=(List.getElem?_eq_some_iff.1 hA).1
 obtain⟨w',h1,ht,h2⟩:=tab_put h i hA strKey Tryz.underlying61 (n,f) (Go.WideMaps.keyOf_string_mk Tryz.underlying9 hn) (ekN_inj hN) (fun x=>decide (x.1≠n)) (fun x _=>by simp [ekN])
 refine⟨w',h1,ht,?_⟩
 have:=tab_perm (L:=(n,f)::nmDel N n) (L':=nmPut N n f) h2 i (by rw [List.getElem?_set_self hi];rfl) (nmPut_perm N n f)
 rwa [List.set_set] at this
theorem nm_del {N:NmL} {b:Nat} {ads:List Nat} (h:In F0 w0 w R) (i:Nat) (hA:R[i]?=some (NTab b ads N)) (hN:NmRow N) {n:ByteArray} (hn:n.size≤maxLen) (ty:TypeId) :
  ∃ w',(Builtin.delete_ #[61,9] ty #[.map (some b),.string n]).run Tryz.prog w=.ok (.tuple #[]) w'∧Turn b w w'∧In F0 w0 w' (R.set i (NTab b ads (nmDel N n))):=
 tab_del h i hA strKey Tryz.underlying61 (Go.WideMaps.keyOf_string_mk Tryz.underlying9 hn) (ekN_inj hN) (fun x=>decide (x.1≠n)) (fun x _=>by simp [ekN]) 9 ty
def chSmall:ChgD→Prop
 | .made n _=>n.size≤maxLen
 | .ren a b=>a.size≤maxLen∧b.size≤maxLen
 | .rem n=>n.size≤maxLen
def chOk (N:NmL) (c:ChgD):Prop:=∀ a b,c=.ren a b→∃ f,nmAt N a=some f
theorem dk_do {N:NmL} {bn:Nat} {ads:List Nat} (h:In F0 w0 w R) (i:Nat) (hA:R[i]?=some (NTab bn ads N)) (hN:NmRow N) (c:ChgD) (hs:chSmall c) (hc:chOk N c) :
  Calls Tryz.prog 40 #[aggC ads c,.map (some bn)] w fun e w'=>e=.returned (.tuple #[])∧In F0 w0 w' (R.set i (NTab bn ads (nmDo N c))):=by
 have hi:=(List.getElem?_eq_some_iff.1 hA).1
 unfold aggC
 cases c with
 | made n f=>
  obtain⟨w1,r1,t1,h1⟩:=nm_put (h.alloc (.cells (encC ads (.made n f)).toArray 86)) i hA hN hs f
  have H1:=Lib.hid h1
  clear h1 h hA hN hs hc t1
  simp only [encC,ptrAt] at r1 ⊢
  try generalize ads.getD f 0=af at *
  go_enter Tryz.func40,Tryz.ntmps40
  go_wp2_with fail
  go_end0
  exact⟨rfl,H1.out⟩
 | rem n=>
  obtain⟨w1,r1,t1,h1⟩:=nm_del (h.alloc (.cells (encC ads (.rem n)).toArray 86)) i hA hN hs 0
  have H1:=Lib.hid h1
  clear h1 h hA hN hs hc t1
  simp only [encC] at r1 ⊢
  go_enter Tryz.func40,Tryz.ntmps40
  go_wp2_with fail
  go_end0
  exact⟨rfl,H1.out⟩
 | ren a b=>
  obtain⟨f,hf⟩:=hc a b rfl
  have h0:=h.alloc (.cells (encC ads (.ren a b)).toArray 86)
  have l0:=nm_look h0 i hA hN hs.1
  rw [hf] at l0
  obtain⟨w1,r1,t1,h1⟩:=nm_put h0 i hA hN hs.2 f
  obtain⟨w2,r2,t2,h2⟩:=nm_del h1 i (by rw [List.getElem?_set_self hi]) (nmPut_row hN b f) hs.1 0
  rw [List.set_set] at h2
  have hbn:bn < w.heap.size:=by
   obtain⟨F,hF⟩:=h.get i hA
   exact hF.2.lt
  have e2:nmDo N (.ren a b)=nmDel (nmPut N b f) a:=by simp [nmDo,hf]
  have c1:w1.cell? ⟨w.heap.size,1,none⟩=some (.string a):=by
   refine cell_of ((t1.block w.heap.size (by omega)).trans hp_alloc_new) ?_
   rfl
  rw [← e2] at h2
  have H2:=Lib.hid h2
  clear h0 h1 h2 h hA hN hs hc t1 t2 e2 hf hbn
  simp only [encC,ptrAt,lookV] at l0 r1 r2 ⊢
  generalize ads.getD f 0=af at *
  go_enter Tryz.func40,Tryz.ntmps40
  go_wp2_with fail
  go_end0
  exact⟨rfl,H2.out⟩
end
theorem infoChange:(Tryz.prog.info? 86).map (fun i=>(i.zero.map (fun z=>z.cells.size),i.size,i.bytes))=some (some 4,4,48):=by kernel_rfl
section
variable {F0:List Nat} {w0 w:World}
theorem encC_four (ads:List Nat) (c:ChgD):∃ a b e f,encC ads c=[a,b,e,f]∧a.oneCell'=true∧b.oneCell'=true∧e.oneCell'=true∧f.oneCell'=true:=by
 cases c <;> exact⟨_,_,_,_,rfl,rfl,rfl,rfl,rfl⟩
def ChangePost (d:DiskD) (bd bn bs:Nat) (ads:List Nat) (c:ChgD) (F0:List Nat) (w0:World) (e:Ending) (w':World):Prop:=
 e=.returned (.tuple #[])∧∃ v',In F0 w0 w' (DkR bd bn bs v' ads (dChange d c))
theorem dk_change {d:DiskD} {bd bn bs:Nat} {vch:Value} {ads:List Nat} (h:In F0 w0 w (DkR bd bn bs vch ads d)) (hok:DiskOk d) (ho:d.ops≤100000001) (c:ChgD) (hs:chSmall c) (hc:chOk d.now c) :
  Calls Tryz.prog 135 #[.pointer (some ⟨bd,0,none⟩),aggC ads c] w (ChangePost d bd bn bs ads c F0 w0):=by
 obtain⟨x0,x1,x2,x3,hx,o0,o1,o2,o3⟩:=encC_four ads c
 have hch:=hok.chops
 have h0:=h.cells (encC ads c).toArray 86
 have C0:=Lib.hid (dk_do (h0.drewN 1) 2 rfl hok.now.row c hs hc)
 have b1:(w.alloc (.cells (encC ads c).toArray 86)).cell? ⟨bd,1,none⟩=some (.map (some bn)):=cell_of (h0.block 1 rfl) rfl
 unfold aggC at C0 ⊢
 rw [hx] at C0 b1 ⊢
 have HX:=Lib.hid hx
 have HOK:=Lib.hid hok
 have HK:Hid (∀ w',In F0 w0 w' ((Cells w.heap.size #[x0,x1,x2,x3] 86::DkR bd bn bs vch ads d).set 2 (NTab bn ads (nmDo d.now c)))→w'.cell? ⟨bd,1,none⟩=some (.map (some bn))∧w'.cell? ⟨w.heap.size,0,none⟩=some x0∧w'.cell? ⟨w.heap.size,1,none⟩=some x1∧w'.cell? ⟨w.heap.size,2,none⟩=some x2∧w'.cell? ⟨w.heap.size,3,none⟩=some x3):=
  Lib.hid fun w' h'=>⟨cell_of (h'.block 1 rfl) rfl,cell_of (h'.block 0 rfl) rfl,cell_of (h'.block 0 rfl) rfl,cell_of (h'.block 0 rfl) rfl,cell_of (h'.block 0 rfl) rfl⟩
 clear h0 h hok hs hc hx
 go_enter Tryz.func135,Tryz.ntmps135
 go_wp2_with fail
 have z0:(w.alloc (.cells #[x0,x1,x2,x3] 86)).cell? ⟨w.heap.size,0,none⟩=some x0:=cell_of hp_alloc_new rfl
 have z1:(w.alloc (.cells #[x0,x1,x2,x3] 86)).cell? ⟨w.heap.size,1,none⟩=some x1:=cell_of hp_alloc_new rfl
 have z2:(w.alloc (.cells #[x0,x1,x2,x3] 86)).cell? ⟨w.heap.size,2,none⟩=some x2:=cell_of hp_alloc_new rfl
 have z3:(w.alloc (.cells #[x0,x1,x2,x3] 86)).cell? ⟨w.heap.size,3,none⟩=some x3:=cell_of hp_alloc_new rfl
 go_region_held3 (fun w'=>w'.cell? ⟨bd,1,none⟩=some (.map (some bn))∧w'.cell? ⟨w.heap.size,0,none⟩=some x0∧w'.cell? ⟨w.heap.size,1,none⟩=some x1∧w'.cell? ⟨w.heap.size,2,none⟩=some x2∧w'.cell? ⟨w.heap.size,3,none⟩=some x3) (first | exact hc1 | go_keep) ((go_at_call 40;refine C0.out.mono ?_;rintro e w1 ⟨rfl,h1⟩;have hc1:=HK.out w1 h1))
 clear hc1 z0 z1 z2 z3
 obtain⟨F,hF⟩:=h1.get 4 rfl
 obtain⟨ac,cap,rfl,k1,k2,-⟩:=hF.shape
 have H1:=Lib.hid h1
 have hb1:=h1.block 1 rfl
 have hb0:=h1.block 0 rfl
 have c3:w1.cell? ⟨bd,3,none⟩=some (.slice ac d.ch.length cap):=cell_of hb1 rfl
 have c3':∀ o,(w1.alloc o).cell? ⟨bd,3,none⟩=some (.slice ac d.ch.length cap):=fun o=>cell_of ((h1.alloc o).block 1 rfl) rfl
 have g0:w1.cell? ⟨w.heap.size,0,none⟩=some x0:=cell_of hb0 rfl
 have g1:w1.cell? ⟨w.heap.size,1,none⟩=some x1:=cell_of hb0 rfl
 have g2:w1.cell? ⟨w.heap.size,2,none⟩=some x2:=cell_of hb0 rfl
 have g3:w1.cell? ⟨w.heap.size,3,none⟩=some x3:=cell_of hb0 rfl
 have bs1:=hp_lt hb0
 have bs2:=hp_lt hb1
 have hcl:d.ch.length≤100000001:=by omega
 clear h1 hb0 hb1 C0 b1 hF
 go_wp2_with fail
 go_region_law
  (first
   | (refine app_step rfl (R:=Cells _ _ 86::Cells w.heap.size #[x0,x1,x2,x3] 86::((DkR bd bn bs (.slice ac d.ch.length cap) ads d).set 1 (NTab bn ads (nmDo d.now c)))) (by exact (H1.out.drewN 1).cells _ _) 5 rfl (.tmp 14) (.tmp 16) 62 (by rfl) Tryz.underlying62 infoChange (by decide) (by decide) (by rfl) (by rfl) (by exact Src.of_block (((H1.out.drewN 1).cells _ _).block 0 rfl) rfl) (fun u hu=>by simp at hu;rcases hu with rfl | rfl | rfl | rfl <;> assumption) (by omega) ?_
      intro v1 w3 ho1 hg1
      have hc1:w3.cell? ⟨bd,3,none⟩=some (.slice ac d.ch.length cap):=cell_of (ho1.block 2 rfl) rfl
      have hf1:w3.frozen? ⟨bd,3,none⟩=false:=free_of (ho1.block 2 rfl)
      obtain⟨F1,hr1⟩:=ho1.get 5 rfl
      obtain⟨a1,cap1,rfl,-,-,-⟩:=hr1.shape
      clear hr1
      have HO1:=Lib.hid ho1
      clear ho1 hg1))
 all_goals
  have h2:=(HO1.out.put 2 rfl 3 (.slice a1 (d.ch.length+1) cap1)).drop.drop
  have HE:Hid (ChangePost d bd bn bs ads c F0 w0 (.returned (.tuple #[])) (w3.setCell ⟨bd,3,none⟩ (.slice a1 (d.ch.length+1) cap1))):=Lib.hid ⟨rfl,_,by
   have e:flatC ads (dChange d c).ch=flatC ads d.ch++[x0,x1,x2,x3]:=by
    rw [← HX.out];simp [dChange,flatC]
   have e2:(dChange d c).ch.length=d.ch.length+1:=by simp [dChange]
   unfold DkR
   rw [e,e2]
   exact h2⟩
  clear h2 HO1
  go_wp2_with fail
  go_end0
  exact HE.out
end
section
variable {F0:List Nat} {w0 w:World} {R:List Asrt}
theorem file_sure {a:Nat} {f:FileD} (h:In F0 w0 w R) (i:Nat) (hA:R[i]?=some (FileA a f)) (s:Nat):In F0 w0 (w.setCell ⟨a,1,none⟩ (.int .i64 s)) (R.set i (FileA a ⟨f.b,s⟩)):=by
 have hi:=(List.getElem?_eq_some_iff.1 hA).1
 obtain⟨v,h1⟩:=h.file i hA
 have h2:=h1.put (b:=a) (C:=#[v,.int .i64 f.sure]) (T:=83) (i+1) (by simp [hi]) 1 (.int .i64 s)
 have h3:In F0 w0 (w.setCell ⟨a,1,none⟩ (.int .i64 s)) (RowA 5 1 v f.b.length (u8s f.b)::R.set i (Cells a #[v,.int .i64 s] 83)):=by
  simpa [List.set_set] using h2
 have:=In.unfile (a:=a) (v:=v) (f:=⟨f.b,s⟩) h3 i (by simp [hi])
 rwa [List.set_set] at this
theorem dsync {d:DiskD} {bd:Nat} {F:List Nat} (h:DkA bd d w F) (ho:d.ops≤100000000) (n:ByteArray) (hn:n.size≤maxLen) :
  Calls Tryz.prog 47 #[.pointer (some ⟨bd,0,none⟩),.string n] w (GV (.int .i64 (dSync d n).2) (DkA bd (dSync d n).1) w F):=by
 obtain⟨hok,bn,bs,vch,ads,hl,h⟩:=h
 have HC:=Lib.hid (dk_find (In.start DkR.framed h) hok ho n hn)
 have hok':=dSync_ok hok n
 rcases dSync_cases d n with ⟨e,h1,he⟩|⟨hf,i,h1,h2⟩
 ·have HP:Hid (∀ w',In F w w' (DkR bd bn bs vch ads (dTick d))→GV (.int .i64 (dSync d n).2) (DkA bd (dSync d n).1) w F (.returned (.int .i64 (findE d n))) w'):=
   Lib.hid fun w' h'=>by
    have e1:findE d n=e:=by
     unfold dSync at h1;unfold findE
     by_cases hf:dFails d
     ·rw [if_pos hf] at h1 ⊢;exact congrArg Prod.snd h1
     ·rw [if_neg hf] at h1 ⊢
      cases e2:nmAt d.now n with
      | none=>rw [e2] at h1;exact congrArg Prod.snd h1
      | some i=>rw [e2] at h1;exfalso;have:(0:Int)=e:=congrArg Prod.snd h1;omega
    rw [e1,h1]
    exact dk_close h' (dTick_ok hok) hl
  have q:(findE d n == 0)=false:=by
   rw [beq_eq_false_iff_ne]
   unfold dSync at h1;unfold findE
   by_cases hf:dFails d
   ·rw [if_pos hf];decide
   ·rw [if_neg hf] at h1 ⊢
    cases e2:nmAt d.now n with
    | none=>decide
    | some i=>rw [e2] at h1;exfalso;have:(0:Int)=e:=congrArg Prod.snd h1;omega
  clear h hok hok' hl h1 he
  go_enter Tryz.func47,Tryz.ntmps47
  go_wp2_with fail
  refine HC.out.mono ?_
  rintro e w1 ⟨rfl,h1⟩
  have HF:=Lib.hid (HP.out w1 h1)
  clear h1 HC HP
  generalize findE d n=fe at *
  go_wp2_with fail
  go_ret
  exact HF.out
 ·have HP:Hid (∀ w',In F w w' (DkR bd bn bs vch ads (dTick d))→GV (.int .i64 (dSync d n).2) (DkA bd (dSync d n).1) w F (.returned (.int .i64 0)) (w'.setCell ⟨ads.getD i 0,1,none⟩ (.int .i64 (d.files.getD i default).b.length))):=
   Lib.hid fun w' h'=>by
    have h3:=file_sure h' (4+i) (dkR_file (d:=dTick d) hl (hok.at h1)) (d.files.getD i default).b.length
    have h4:=dkR_set (bd:=bd) (bn:=bn) (bs:=bs) (vch:=vch) (d:=dTick d) hl (hok.at h1) ⟨(d.files.getD i default).b,(d.files.getD i default).b.length⟩
    rw [h2]
    refine dk_close (vch:=vch) (bn:=bn) (bs:=bs) (ads:=ads) ?_ (by rw [h2] at hok';exact hok') (by simpa [dSet,dTick] using hl)
    rw [← h4];exact h3
  have CF:Hid (∀ w',In F w w' (DkR bd bn bs vch ads (dTick d))→∃ ad cap,w'.cell? ⟨ads.getD i 0,0,none⟩=some (.slice ad (d.files.getD i default).b.length cap)∧w'.frozen? ⟨ads.getD i 0,1,none⟩=false∧w'.cell? ⟨ads.getD i 0,1,none⟩=some (.int .i64 (d.files.getD i default).sure)):=
   Lib.hid fun w' h'=>by
    obtain⟨ad,cap,hb,_⟩:=file_at h' (4+i) (dkR_file (d:=dTick d) hl (hok.at h1))
    exact⟨ad,cap,cell_of hb rfl,free_of hb,cell_of hb rfl⟩
  have e1:findE d n=0:=by unfold findE;rw [if_neg hf,h1];rfl
  have e2:findV ads d n=.pointer (some ⟨ads.getD i 0,0,none⟩):=by unfold findV;rw [if_neg hf,h1];rfl
  have HE:=Lib.hid (And.intro e1 e2)
  clear h hok hok' hl h1 h2 hf e1 e2
  go_enter Tryz.func47,Tryz.ntmps47
  go_wp2_with fail
  refine HC.out.mono ?_
  rintro e w1 ⟨rfl,h1⟩
  rw [HE.out.1,HE.out.2]
  have HF:=Lib.hid (HP.out w1 h1)
  obtain⟨ad,cap,c0,f1,c1⟩:=CF.out w1 h1
  clear h1 HC HP CF HE
  generalize ads.getD i 0=af at *
  generalize (d.files.getD i default).b.length=fl at *
  go_wp2_with fail
  go_ret
  exact HF.out
end
section
variable {F0:List Nat} {w0 w:World} {R:List Asrt}
theorem find_cases (d:DiskD) (n:ByteArray):(findE d n≠0∧(dFails d∨nmAt d.now n=none))∨(findE d n=0∧¬ dFails d∧∃ i,nmAt d.now n=some i∧∀ ads,findV ads d n=ptrAt ads i):=by
 unfold findE findV
 by_cases hf:dFails d
 ·rw [if_pos hf];exact Or.inl ⟨by decide,Or.inl hf⟩
 ·rw [if_neg hf]
  cases e:nmAt d.now n with
  | none=>exact Or.inl ⟨by decide,Or.inr rfl⟩
  | some i=>exact Or.inr ⟨rfl,hf,i,rfl,fun ads=>by rw [if_neg hf];rfl⟩
theorem dRemove_err {d:DiskD} {n:ByteArray} (h:findE d n≠0):dRemove d n=(dTick d,findE d n):=by
 unfold findE at *;unfold dRemove
 by_cases hf:dFails d
 ·rw [if_pos hf,if_pos hf]
 ·rw [if_neg hf] at h ⊢;rw [if_neg hf]
  cases e:nmAt d.now n with
  | none=>rfl
  | some i=>rw [e] at h;simp at h
theorem dRename_err {d:DiskD} {n m:ByteArray} (h:findE d n≠0):dRename d n m=(dTick d,findE d n):=by
 unfold findE at *;unfold dRename
 by_cases hf:dFails d
 ·rw [if_pos hf,if_pos hf]
 ·rw [if_neg hf] at h ⊢;rw [if_neg hf]
  cases e:nmAt d.now n with
  | none=>rfl
  | some i=>rw [e] at h;simp at h
theorem dCut_err {d:DiskD} {n:ByteArray} {k:Int} (h:findE d n≠0):dCut d n k=(dTick d,findE d n):=by
 unfold findE at *;unfold dCut
 by_cases hf:dFails d
 ·rw [if_pos hf,if_pos hf]
 ·rw [if_neg hf] at h ⊢;rw [if_neg hf]
  cases e:nmAt d.now n with
  | none=>rfl
  | some i=>rw [e] at h;simp at h
theorem bytes_ne {a b:ByteArray} (h:¬ a=b):(a.toList == b.toList)=false:=by
 rw [beq_eq_false_iff_ne,ByteArray.toList_eq,ByteArray.toList_eq];exact fun e=>h (ba_ext e)
theorem dremove {d:DiskD} {bd:Nat} {F:List Nat} (h:DkA bd d w F) (ho:d.ops≤100000000) (n:ByteArray) (hn:n.size≤maxLen) :
  Calls Tryz.prog 91 #[.pointer (some ⟨bd,0,none⟩),.string n] w (GV (.int .i64 (dRemove d n).2) (DkA bd (dRemove d n).1) w F):=by
 obtain⟨hok,bn,bs,vch,ads,hl,h⟩:=h
 have HC:=Lib.hid (dk_find (In.start DkR.framed h) hok ho n hn)
 have hok':=dRemove_ok hok n
 rcases find_cases d n with ⟨hne,_⟩|⟨he,hf,i,h1,hv⟩
 ·have HP:Hid (∀ w',In F w w' (DkR bd bn bs vch ads (dTick d))→GV (.int .i64 (dRemove d n).2) (DkA bd (dRemove d n).1) w F (.returned (.int .i64 (findE d n))) w'):=
   Lib.hid fun w' h'=>by rw [dRemove_err hne];exact dk_close h' (dTick_ok hok) hl
  have q:(findE d n == 0)=false:=beq_eq_false_iff_ne.2 hne
  clear h hok hok' hl hne
  go_enter Tryz.func91,Tryz.ntmps91
  go_wp2_with fail
  refine HC.out.mono ?_
  rintro e w1 ⟨rfl,h1⟩
  have HF:=Lib.hid (HP.out w1 h1)
  clear h1 HC HP
  generalize findE d n=fe at *
  go_wp2_with fail
  go_ret
  exact HF.out
 ·have e2:dRemove d n=(dChange (dTick d) (.rem n),0):=by unfold dRemove;rw [if_neg hf,h1]
  have HP:Hid (∀ w' v',In F w w' (DkR bd bn bs v' ads (dChange (dTick d) (.rem n)))→GV (.int .i64 (dRemove d n).2) (DkA bd (dRemove d n).1) w F (.returned (.int .i64 0)) w'):=
   Lib.hid fun w' v' h'=>by rw [e2] at hok' ⊢;exact dk_close h' hok' hl
  have H2:Hid (∀ w',In F w w' (DkR bd bn bs vch ads (dTick d))→Calls Tryz.prog 135 #[.pointer (some ⟨bd,0,none⟩),.agg #[.int .i64 3,.string n,.string ByteArray.empty,.pointer none]] w' (ChangePost (dTick d) bd bn bs ads (.rem n) F w)):=
   Lib.hid fun w' h'=>dk_change h' (dTick_ok hok) (by show d.ops+1≤_;omega) (.rem n) hn (fun a b e=>by cases e)
  have HE:=Lib.hid (And.intro he (hv ads))
  clear h hok hok' hl e2 hf he hv h1
  go_enter Tryz.func91,Tryz.ntmps91
  go_wp2_with fail
  refine HC.out.mono ?_
  rintro e w1 ⟨rfl,h1⟩
  rw [HE.out.1,HE.out.2]
  have H3:=Lib.hid (H2.out w1 h1)
  clear h1 HC H2 HE
  unfold ptrAt
  go_wp2_with fail
  refine H3.out.mono ?_
  rintro e w2 ⟨rfl,v',h2⟩
  have HF:=Lib.hid (HP.out w2 v' h2)
  clear h2 HP H3
  go_wp2_with fail
  go_ret
  exact HF.out
theorem drename {d:DiskD} {bd:Nat} {F:List Nat} (h:DkA bd d w F) (ho:d.ops≤100000000) (n m:ByteArray) (hn:n.size≤maxLen) (hm:m.size≤maxLen) :
  Calls Tryz.prog 107 #[.pointer (some ⟨bd,0,none⟩),.string n,.string m] w (GV (.int .i64 (dRename d n m).2) (DkA bd (dRename d n m).1) w F):=by
 obtain⟨hok,bn,bs,vch,ads,hl,h⟩:=h
 have HC:=Lib.hid (dk_find (In.start DkR.framed h) hok ho n hn)
 have hok':=dRename_ok hok n m
 rcases find_cases d n with ⟨hne,_⟩|⟨he,hf,i,h1,hv⟩
 ·have HP:Hid (∀ w',In F w w' (DkR bd bn bs vch ads (dTick d))→GV (.int .i64 (dRename d n m).2) (DkA bd (dRename d n m).1) w F (.returned (.int .i64 (findE d n))) w'):=
   Lib.hid fun w' h'=>by rw [dRename_err hne];exact dk_close h' (dTick_ok hok) hl
  have q:(findE d n != 0)=true:=by rw [bne_iff_ne];exact hne
  clear h hok hok' hl hne
  go_enter Tryz.func107,Tryz.ntmps107
  go_wp2_with fail
  refine HC.out.mono ?_
  rintro e w1 ⟨rfl,h1⟩
  have HF:=Lib.hid (HP.out w1 h1)
  clear h1 HC HP
  generalize findE d n=fe at *
  go_wp2_with fail
  go_ret
  exact HF.out
 ·have HN:=Lib.hid (dk_named m hm)
  have HE:=Lib.hid (And.intro he (hv ads))
  by_cases hb:namedB m=true
  ·by_cases hnm:n=m
   ·have e2:dRename d n m=(dTick d,0):=by unfold dRename;rw [if_neg hf,h1];simp [hb,hnm]
    have HP:Hid (∀ w',In F w w' (DkR bd bn bs vch ads (dTick d))→GV (.int .i64 (dRename d n m).2) (DkA bd (dRename d n m).1) w F (.returned (.int .i64 0)) w'):=
     Lib.hid fun w' h'=>by rw [e2] at hok' ⊢;exact dk_close h' hok' hl
    have HB:=Lib.hid hb
    clear h hok hok' hl e2 hf he hv h1 hb
    subst hnm
    go_enter Tryz.func107,Tryz.ntmps107
    go_wp2_with fail
    refine HC.out.mono ?_
    rintro e w1 ⟨rfl,h1⟩
    rw [HE.out.1,HE.out.2]
    have HF:=Lib.hid (HP.out w1 h1)
    clear h1 HC HE HP
    unfold ptrAt
    go_wp2_with fail
    refine (HN.out w1).mono ?_
    rintro e w2 ⟨rfl,rfl⟩
    rw [HB.out]
    go_wp2_with fail
    go_ret
    exact HF.out
   ·have e2:dRename d n m=(dChange (dTick d) (.ren n m),0):=by unfold dRename;rw [if_neg hf,h1];simp [hb,hnm]
    have HP:Hid (∀ w' v',In F w w' (DkR bd bn bs v' ads (dChange (dTick d) (.ren n m)))→GV (.int .i64 (dRename d n m).2) (DkA bd (dRename d n m).1) w F (.returned (.int .i64 0)) w'):=
     Lib.hid fun w' v' h'=>by rw [e2] at hok' ⊢;exact dk_close h' hok' hl
    have H2:Hid (∀ w',In F w w' (DkR bd bn bs vch ads (dTick d))→Calls Tryz.prog 135 #[.pointer (some ⟨bd,0,none⟩),.agg #[.int .i64 2,.string n,.string m,.pointer none]] w' (ChangePost (dTick d) bd bn bs ads (.ren n m) F w)):=
     Lib.hid fun w' h'=>dk_change h' (dTick_ok hok) (by show d.ops+1≤_;omega) (.ren n m) ⟨hn,hm⟩ (fun a b e=>by cases e;exact⟨i,h1⟩)
    have HB:=Lib.hid hb
    have q:(n.toList == m.toList)=false:=bytes_ne hnm
    clear h hok hok' hl e2 hf he hv h1 hb hnm
    go_enter Tryz.func107,Tryz.ntmps107
    go_wp2_with fail
    refine HC.out.mono ?_
    rintro e w1 ⟨rfl,h1⟩
    rw [HE.out.1,HE.out.2]
    have H3:=Lib.hid (H2.out w1 h1)
    clear h1 HC H2 HE
    unfold ptrAt
    go_wp2_with fail
    refine (HN.out w1).mono ?_
    rintro e w2 ⟨rfl,rfl⟩
    rw [HB.out]
    go_wp2_with fail
    refine H3.out.mono ?_
    rintro e w2 ⟨rfl,v',h2⟩
    have HF:=Lib.hid (HP.out w2 v' h2)
    clear h2 HP H3
    go_wp2_with fail
    go_ret
    exact HF.out
  ·have hb':namedB m=false:=by simpa using hb
   have e2:dRename d n m=(dTick d,1):=by unfold dRename;rw [if_neg hf,h1];simp [hb']
   have HP:Hid (∀ w',In F w w' (DkR bd bn bs vch ads (dTick d))→GV (.int .i64 (dRename d n m).2) (DkA bd (dRename d n m).1) w F (.returned (.int .i64 1)) w'):=
    Lib.hid fun w' h'=>by rw [e2] at hok' ⊢;exact dk_close h' hok' hl
   have HB:=Lib.hid hb'
   clear h hok hok' hl e2 hf he hv h1 hb hb'
   go_enter Tryz.func107,Tryz.ntmps107
   go_wp2_with fail
   refine HC.out.mono ?_
   rintro e w1 ⟨rfl,h1⟩
   rw [HE.out.1,HE.out.2]
   have HF:=Lib.hid (HP.out w1 h1)
   clear h1 HC HE HP
   unfold ptrAt
   go_wp2_with fail
   refine (HN.out w1).mono ?_
   rintro e w2 ⟨rfl,rfl⟩
   rw [HB.out]
   go_wp2_with fail
   go_ret
   exact HF.out
end
section
variable {F0:List Nat} {w0 w:World} {R:List Asrt}
theorem clone_dmap (b:Nat) (es:Array MapEntry) (clock:Nat) (w:World) (hb:w.heap[b]?=some (.map es clock)) :
  Calls Tryz.prog 39 #[.map (some b)] w fun e w'=>e=.returned (.map (some w.heap.size))∧w'=w.alloc (.map es clock):=by
 have hq:=fun w=>run_eql_map_nil_sl (P:=Tryz.prog) w 61 _ _ (some b) Tryz.underlying61
 go_enter Tryz.func39,Tryz.ntmps39
 go_wp2
 rw [run_callFunc_extern Tryz.func96 (by kernel_rfl) (by kernel_rfl) (by kernel_rfl) (e:=Extern.MapsClone.clone) (by kernel_rfl),run_maps_clone_sl w 61 hb]
 simp only [Result.andThen]
 rw [Oper.upon_value]
 go_wp2
 rw [run_typeAssert_map_sl _ 61 20 _ _ _ Tryz.underlying61]
 simp only [Result.andThen]
 rw [Oper.upon_value]
 go_wp2
 go_ret
 exact⟨rfl,rfl⟩
theorem tab_clone {α:Type} {P:Program} {kt:TypeId} {ek ev:α→Value} {b:Nat} {L:List α} (h:In F0 w0 w R) (i:Nat) (hA:R[i]?=some (TabA P kt ek ev b L)) :
  ∃ es clock,w.heap[b]?=some (.map es clock)∧In F0 w0 (w.alloc (.map es clock)) (TabA P kt ek ev w.heap.size L::R):=by
 obtain⟨Fb,hFb⟩:=h.get i hA
 obtain⟨es,clock,h1,h2,h3⟩:=hFb.2.ex
 refine⟨es,clock,h1,?_⟩
 obtain⟨F,hs,hF⟩:=h.star
 have fr:=Framed.star h.framed
 refine⟨fun B hB=>?_,⟨[w.heap.size]++F,⟨[w.heap.size],F,⟨rfl,⟨es,clock,hp_alloc_new,h2,h3⟩⟩,fr.keep hs (fun b hb=>hp_alloc_old (fr.lt hs b hb)),?_,rfl⟩,?_⟩,h.mod.alloc _⟩
 ·rcases List.mem_cons.1 hB with rfl | hB
  ·exact TabA.framed _ _
  ·exact h.framed B hB
 ·intro b hb hbF
  simp at hb;subst hb
  exact absurd (fr.lt hs _ hbF) (by omega)
 ·intro b hb
  simp at hb
  rcases hb with rfl | hb
  ·exact Or.inr h.mod.size
  ·exact hF b hb
theorem dsyncdir {d:DiskD} {bd:Nat} {F:List Nat} (h:DkA bd d w F) (ho:d.ops≤100000000) :
  Calls Tryz.prog 87 #[.pointer (some ⟨bd,0,none⟩)] w (GV (.int .i64 (dSyncDir d).2) (DkA bd (dSyncDir d).1) w F):=by
 obtain⟨hok,bn,bs,vch,ads,hl,h⟩:=h
 have HC:=Lib.hid (dk_begin (In.start DkR.framed h) 0 dkR_cells hok ho)
 have hok':=dSyncDir_ok hok
 rcases dSyncDir_cases d with h1 | ⟨hf,h1⟩
 ·have ht:tickE d=8:=by
   unfold tickE;unfold dSyncDir at h1
   by_cases hf:dFails d
   ·rw [if_pos hf]
   ·rw [if_neg hf] at h1;have h2:(0:Int)=8:=congrArg Prod.snd h1;omega
  have HP:Hid (∀ w',In F w w' (DkR bd bn bs vch ads (dTick d))→GV (.int .i64 (dSyncDir d).2) (DkA bd (dSyncDir d).1) w F (.returned (.int .i64 8)) w'):=
   Lib.hid fun w' h'=>by rw [h1] at hok' ⊢;exact dk_close h' hok' hl
  have HE:=Lib.hid ht
  clear h hok hok' hl h1 ht
  go_enter Tryz.func87,Tryz.ntmps87
  go_wp2_with fail
  refine HC.out.mono ?_
  rintro e w1 ⟨rfl,h1⟩
  rw [dkR_tick] at h1
  rw [HE.out]
  have HF:=Lib.hid (HP.out w1 h1)
  clear h1 HC HP HE
  go_wp2_with fail
  go_ret
  exact HF.out
 ·have ht:tickE d=0:=by unfold tickE;rw [if_neg hf]
  have HP:Hid (∀ w' bs',In F w w' (DkR bd bn bs' (.slice none 0 0) ads (dFirm (dTick d)))→GV (.int .i64 (dSyncDir d).2) (DkA bd (dSyncDir d).1) w F (.returned (.int .i64 0)) w'):=
   Lib.hid fun w' bs' h'=>by rw [h1] at hok' ⊢;exact dk_close h' hok' hl
  have HE:=Lib.hid ht
  clear h hok hok' hl h1 ht hf
  go_enter Tryz.func87,Tryz.ntmps87
  go_wp2_with fail
  refine HC.out.mono ?_
  rintro e w1 ⟨rfl,h1⟩
  rw [dkR_tick] at h1
  rw [HE.out]
  have c1:w1.cell? ⟨bd,1,none⟩=some (.map (some bn)):=cell_of (h1.block 0 rfl) rfl
  obtain⟨es,clock,hb,h2⟩:=tab_clone h1 1 rfl
  have C2:=Lib.hid (clone_dmap bn es clock w1 hb)
  have g0:=h2.block 1 rfl
  have c2:(w1.alloc (.map es clock)).cell? ⟨bd,2,none⟩=some (.map (some bs)):=cell_of g0 rfl
  have c3:(w1.alloc (.map es clock)).cell? ⟨bd,3,none⟩=some vch:=cell_of g0 rfl
  have f2:(w1.alloc (.map es clock)).frozen? ⟨bd,2,none⟩=false:=free_of g0
  have f3:(w1.alloc (.map es clock)).frozen? ⟨bd,3,none⟩=false:=free_of g0
  have h3:=((h2.put 1 rfl 2 (.map (some w1.heap.size))).put 1 rfl 3 (.slice none 0 0))
  have h4:In F w (((w1.alloc (.map es clock)).setCell ⟨bd,2,none⟩ (.map (some w1.heap.size))).setCell ⟨bd,3,none⟩ (.slice none 0 0)) (DkR bd bn w1.heap.size (.slice none 0 0) ads (dFirm (dTick d))):=by
   have h5:=h3.rownil 86 4
   exact In.sel2 (R1:=[RowA 86 4 (.slice none 0 0) 0 [],NTab w1.heap.size ads d.now,Cells bd (dkCells (dFirm (dTick d)) bn w1.heap.size (.slice none 0 0)) 64,NTab bn ads d.now,NTab bs ads d.sure,RowA 86 4 vch d.ch.length (flatC ads d.ch)]) (R2:=filesR ads d.files) h5 [2,3,1,0] (by decide) rfl
  have HF:=Lib.hid (HP.out _ _ h4)
  clear h1 h2 h3 h4 HC HP HE hb g0
  go_wp2_with fail
  refine C2.out.mono ?_
  rintro e w2 ⟨rfl,rfl⟩
  go_wp2_with fail
  go_ret
  exact HF.out
end
section
variable {F0:List Nat} {w0 w:World} {R:List Asrt}
theorem file_write {a:Nat} {f:FileD} {v v':Value} {bs:List UInt8} (i:Nat) (hi:i < R.length) (h:In F0 w0 w (RowA 5 1 v' (f.b.length+bs.length) (u8s f.b++u8s bs)::R.set i (Cells a #[v,.int .i64 f.sure] 83))) :
  In F0 w0 (w.setCell ⟨a,0,none⟩ v') (R.set i (FileA a ⟨f.b++bs,f.sure⟩)):=by
 have h2:=h.put (b:=a) (C:=#[v,.int .i64 f.sure]) (T:=83) (i+1) (by simp [hi]) 0 v'
 have h3:In F0 w0 (w.setCell ⟨a,0,none⟩ v') (RowA 5 1 v' (f.b++bs).length (u8s (f.b++bs))::R.set i (Cells a #[v',.int .i64 f.sure] 83)):=by
  rw [List.length_append,← u8s_append]
  simpa [List.set_set] using h2
 have:=In.unfile (a:=a) (v:=v') (f:=⟨f.b++bs,f.sure⟩) h3 i (by simp [hi])
 rwa [List.set_set] at this
theorem dk_grow {d:DiskD} {bd bn bs a:Nat} {vch:Value} {ads:List Nat} (h:In F0 w0 w (FileA a ⟨[],0⟩::DkR bd bn bs vch ads d)) (hok:DiskOk d) (hl:ads.length=d.files.length):In F0 w0 w (DkR bd bn bs vch (ads++[a]) (dGrow d)):=by
 have hev:∀ (N:NmL),NmOk N d.files.length→∀ x∈N,evN (ads++[a]) x=evN ads x:=fun N hN x hx=>ptrAt_more (by rw [hl];exact hN.lt x hx) a
 have h1:=h.imp 2 (A':=NTab bn (ads++[a]) d.now) rfl (TabA.framed _ _) (fun F hF=>TabA.ev hF (hev _ hok.now))
 have h2:=h1.imp 3 (A':=NTab bs (ads++[a]) d.sure) rfl (TabA.framed _ _) (fun F hF=>TabA.ev hF (hev _ hok.sure'))
 have e:flatC (ads++[a]) d.ch=flatC ads d.ch:=flatC_more (fun c hc=>by rw [hl];exact hist_ids hok.hist c hc) a
 have e2:DkR bd bn bs vch (ads++[a]) (dGrow d)=[Cells bd (dkCells d bn bs vch) 64,NTab bn (ads++[a]) d.now,NTab bs (ads++[a]) d.sure,RowA 86 4 vch d.ch.length (flatC ads d.ch)]++(filesR ads d.files++[FileA a ⟨[],0⟩]):=by
  unfold DkR
  have:filesR (ads++[a]) (dGrow d).files=filesR ads d.files++[FileA a ⟨[],0⟩]:=by
   unfold filesR dGrow
   exact List.zipWith_append hl
  rw [this,← e];rfl
 rw [e2]
 refine h2.perm ?_
 refine List.Perm.trans ?_ (List.Perm.append_left _ List.perm_append_comm)
 exact (List.perm_middle (l₁:=[Cells bd (dkCells d bn bs vch) 64,NTab bn (ads++[a]) d.now,NTab bs (ads++[a]) d.sure,RowA 86 4 vch d.ch.length (flatC ads d.ch)])).symm
def AppendPost (d d':DiskD) (r:Int) (bd:Nat) (F:List Nat) (w:World) (e:Ending) (w':World):Prop:=GV (.int .i64 r) (DkA bd d') w F e w'
theorem dappend {d:DiskD} {bd:Nat} {F:List Nat} (h:DkA bd d w F) (ho:d.ops≤100000000) (n:ByteArray) (hn:n.size≤maxLen) {A:Option Addr} {c:Nat} {bs:List UInt8} (hm:bs.length≤10000000) (hs:∀ w',Mod F w w'→Src w' A bs.length 1 (u8s bs)) :
  Calls Tryz.prog 80 #[.pointer (some ⟨bd,0,none⟩),.string n,.slice A bs.length c] w (GV (.int .i64 (dAppend d n bs).2) (DkA bd (dAppend d n bs).1) w F):=by
 obtain⟨hok,bn,bsu,vch,ads,hl,h⟩:=h
 have HC:=Lib.hid (dk_begin (In.start DkR.framed h) 0 dkR_cells hok ho)
 have hok':=Lib.hid (dAppend_ok hok n bs)
 have HOK:=Lib.hid hok
 have HL:=Lib.hid hl
 have HN:=Lib.hid (dk_named n hn)
 have HS:=Lib.hid hs
 have HLK:Hid (∀ w',In F w w' (DkR bd bn bsu vch ads (dTick d))→w'.cell? ⟨bd,1,none⟩=some (.map (some bn))∧(Instr.lookup 61 (.map (some bn)) (.string n) false).run Tryz.prog w'=.ok (lookV ads (nmAt d.now n)) w'):=
  Lib.hid fun w' h'=>⟨cell_of (h'.block 0 dkR_cells) rfl,nm_look h' 1 dkR_now HOK.out.now.row hn⟩
 clear h hok hl hs
 by_cases hf:dFails d
 ·have e2:dAppend d n bs=(dTick d,8):=by unfold dAppend;rw [if_pos hf]
  have HP:Hid (∀ w',In F w w' (DkR bd bn bsu vch ads (dTick d))→GV (.int .i64 (dAppend d n bs).2) (DkA bd (dAppend d n bs).1) w F (.returned (.int .i64 8)) w'):=
   Lib.hid fun w' h'=>by have:=hok'.out;rw [e2] at this ⊢;exact dk_close h' this HL.out
  have HE:Hid (tickE d=8):=Lib.hid (by rw [tickE,if_pos hf])
  clear hf e2
  go_enter Tryz.func80,Tryz.ntmps80
  go_wp2_with fail
  refine HC.out.mono ?_
  rintro e w1 ⟨rfl,h1⟩
  rw [dkR_tick] at h1
  rw [HE.out]
  have HF:=Lib.hid (HP.out w1 h1)
  clear h1 HC HP HE
  go_wp2_with fail
  go_ret
  exact HF.out
 ·have HE:Hid (tickE d=0):=Lib.hid (by rw [tickE,if_neg hf])
  by_cases hnm:namedB n=true
  ·have HB:=Lib.hid hnm
   cases e1:nmAt d.now n with
   | some i=>
    have hi:=HOK.out.at e1
    by_cases hr:dRoom d (some i) bs.length=true
    ·have e2:dAppend d n bs=(dWrite (dTick d) i bs,0):=by unfold dAppend;rw [if_neg hf,e1];simp [hnm,hr]
     have HP:Hid (∀ w',In F w w' (DkR bd bn bsu vch ads (dWrite (dTick d) i bs))→GV (.int .i64 (dAppend d n bs).2) (DkA bd (dAppend d n bs).1) w F (.returned (.int .i64 0)) w'):=
      Lib.hid fun w' h'=>by have:=hok'.out;rw [e2] at this ⊢;exact dk_close h' this (by simpa [dWrite,dSet,dTick] using HL.out)
     have HR:=Lib.hid (fun w1 (h1:In F w w1 (DkR bd bn bsu vch ads (dTick d)))=>dk_room_some h1 (dTick_ok HOK.out) HL.out hi (k:=bs.length) (by omega))
     have hr':dRoom (dTick d) (some i) bs.length=true:=hr
     have HRT:=Lib.hid hr'
     have HE1:=Lib.hid e1
     have hfl:=(HOK.out.file _ (getD_mem hi)).1
     clear hf e2 hnm e1 hr hr'
     go_enter Tryz.func80,Tryz.ntmps80
     go_wp2_with fail
     refine HC.out.mono ?_
     rintro e w1 ⟨rfl,h1⟩
     rw [dkR_tick] at h1
     rw [HE.out]
     obtain⟨c1,l1⟩:=HLK.out w1 h1
     rw [HE1.out] at l1
     have HR1:=Lib.hid (HR.out w1 h1)
     obtain⟨af,haf⟩:∃ af,ads.getD i 0=af:=⟨_,rfl⟩
     simp only [lookV,ptrAt,haf] at l1 HR1
     have HAF:=Lib.hid haf
     have HH:=Lib.hid h1
     clear h1 HC HE HLK HR HE1 haf
     go_wp2_with fail
     refine (HN.out w1).mono ?_
     rintro e w2 ⟨rfl,rfl⟩
     rw [HB.out]
     go_wp2_with fail
     refine HR1.out.mono ?_
     rintro e w3 ⟨rfl,h3⟩
     rw [HRT.out]
     have hF:=dkR_file (bd:=bd) (bn:=bn) (bs:=bsu) (vch:=vch) (d:=dTick d) HL.out hi
     rw [HAF.out] at hF
     obtain⟨v,h4⟩:=h3.file (4+i) hF
     obtain⟨Fv,hv⟩:=h4.get 0 rfl
     obtain⟨av,cv,rfl,k1,k2,-⟩:=hv.shape
     have hlen:4+i < (DkR bd bn bsu vch ads (dTick d)).length:=(List.getElem?_eq_some_iff.1 hF).1
     have HLN:=Lib.hid hlen
     have hbk:=h4.block (4+i+1) (b:=af) (C:=#[.slice av (d.files.getD i default).b.length cv,.int .i64 (d.files.getD i default).sure]) (T:=83) (by rw [List.getElem?_cons_succ,List.getElem?_set_self hlen];rfl)
     have c0:w3.cell? ⟨af,0,none⟩=some (.slice av (d.files.getD i default).b.length cv):=cell_of hbk rfl
     have H4:=Lib.hid h4
     have SS:=Lib.hid (HS.out w3 h3.mod)
     clear h3 h4 hv hbk hF HR1 HRT HH hlen
     have HP1:Hid (∀ w' v',In F w w' (RowA 5 1 v' ((d.files.getD i default).b.length+bs.length) (u8s (d.files.getD i default).b++u8s bs)::(DkR bd bn bsu vch ads (dTick d)).set (4+i) (Cells af #[.slice av (d.files.getD i default).b.length cv,.int .i64 (d.files.getD i default).sure] 83)) →
       w'.cell? ⟨af,0,none⟩=some (.slice av (d.files.getD i default).b.length cv)∧w'.frozen? ⟨af,0,none⟩=false∧GV (.int .i64 (dAppend d n bs).2) (DkA bd (dAppend d n bs).1) w F (.returned (.int .i64 0)) (w'.setCell ⟨af,0,none⟩ v')):=Lib.hid fun w' v' h'=>by
      have hb:=h'.block (4+i+1) (b:=af) (C:=#[.slice av (d.files.getD i default).b.length cv,.int .i64 (d.files.getD i default).sure]) (T:=83) (by rw [List.getElem?_cons_succ,List.getElem?_set_self HLN.out])
      refine⟨cell_of hb rfl,free_of hb,HP.out _ ?_⟩
      have h2:=file_write (f:=d.files.getD i default) (4+i) HLN.out h'
      have h5:=dkR_set (bd:=bd) (bn:=bn) (bs:=bsu) (vch:=vch) (d:=dTick d) HL.out hi ⟨(d.files.getD i default).b++bs,(d.files.getD i default).sure⟩
      rw [HAF.out] at h5
      unfold dWrite
      rw [show (dTick d).files=d.files from rfl,← h5]
      exact h2
     clear HP
     have H5:Hid (In F w w3 (RowA 5 1 (.slice av (d.files.getD i default).b.length cv) (d.files.getD i default).b.length (u8s (d.files.getD i default).b)::(DkR bd bn bsu vch ads (dTick d)).set (4+i) (Cells af #[.slice av (d.files.getD i default).b.length cv,.int .i64 (d.files.getD i default).sure] 83))):=H4
     clear H4
     generalize (d.files.getD i default)=f at *
     go_wp2_with (at_builtin;refine app_list rfl H5.out 0 rfl (.tmp 42) (.tmp 43) 41 (by rfl) Tryz.underlying41 infoByte (by decide) (by decide) (by rfl) (by rfl) SS.out (u8s_one _) (by omega) ?_)
     intro v' w4 h5 hg
     obtain⟨Fw,hw⟩:=h5.get 0 rfl
     obtain⟨aw,cw,rfl,-,-,-⟩:=hw.shape
     obtain⟨d0,d1,hfin⟩:=HP1.out w4 _ h5
     have HF:=Lib.hid hfin
     clear h5 hw hfin hg H5 SS HP1
     go_wp2_with fail
     go_ret
     exact HF.out
    ·have hr':dRoom d (some i) bs.length=false:=by simpa using hr
     have e2:dAppend d n bs=(dTick d,7):=by unfold dAppend;rw [if_neg hf,e1];simp [hnm,hr']
     have HP:Hid (∀ w',In F w w' (DkR bd bn bsu vch ads (dTick d))→GV (.int .i64 (dAppend d n bs).2) (DkA bd (dAppend d n bs).1) w F (.returned (.int .i64 7)) w'):=
      Lib.hid fun w' h'=>by have:=hok'.out;rw [e2] at this ⊢;exact dk_close h' this HL.out
     have HR:=Lib.hid (fun w1 (h1:In F w w1 (DkR bd bn bsu vch ads (dTick d)))=>dk_room_some h1 (dTick_ok HOK.out) HL.out hi (k:=bs.length) (by omega))
     have hr2:dRoom (dTick d) (some i) bs.length=false:=hr'
     have HRT:=Lib.hid hr2
     have HE1:=Lib.hid e1
     clear hf e2 hnm e1 hr hr' hr2
     go_enter Tryz.func80,Tryz.ntmps80
     go_wp2_with fail
     refine HC.out.mono ?_
     rintro e w1 ⟨rfl,h1⟩
     rw [dkR_tick] at h1
     rw [HE.out]
     obtain⟨c1,l1⟩:=HLK.out w1 h1
     rw [HE1.out] at l1
     have HR1:=Lib.hid (HR.out w1 h1)
     obtain⟨af,haf⟩:∃ af,ads.getD i 0=af:=⟨_,rfl⟩
     simp only [lookV,ptrAt,haf] at l1 HR1
     clear h1 HC HE HLK HR HE1 haf
     go_wp2_with fail
     refine (HN.out w1).mono ?_
     rintro e w2 ⟨rfl,rfl⟩
     rw [HB.out]
     go_wp2_with fail
     refine HR1.out.mono ?_
     rintro e w3 ⟨rfl,h3⟩
     rw [HRT.out]
     have HF:=Lib.hid (HP.out w3 h3)
     clear h3 HR1 HRT HP
     go_wp2_with fail
     go_ret
     exact HF.out
   | none=>
    by_cases hr:dRoom d none bs.length=true
    ·have e2:dAppend d n bs=(dWrite (dChange (dGrow (dTick d)) (.made n d.files.length)) d.files.length bs,0):=by unfold dAppend;rw [if_neg hf,e1];simp [hnm,hr]
     have HP:Hid (∀ w' v' ads',ads'.length=d.files.length+1→In F w w' (DkR bd bn bsu v' ads' (dWrite (dChange (dGrow (dTick d)) (.made n d.files.length)) d.files.length bs))→GV (.int .i64 (dAppend d n bs).2) (DkA bd (dAppend d n bs).1) w F (.returned (.int .i64 0)) w'):=
      Lib.hid fun w' v' ads' hl' h'=>by have:=hok'.out;rw [e2] at this ⊢;exact dk_close h' this (by simpa [dWrite,dSet,dTick,dChange,dGrow] using hl')
     have HR:=Lib.hid (fun w1 (h1:In F w w1 (DkR bd bn bsu vch ads (dTick d)))=>dk_room_none h1 (dTick_ok HOK.out) HL.out (k:=bs.length) (by omega))
     have hr':dRoom (dTick d) none bs.length=true:=hr
     have HRT:=Lib.hid hr'
     have HE1:=Lib.hid e1
     have hgk:DiskOk (dGrow (dTick d)):=by
      have h:=dTick_ok HOK.out
      refine⟨h.quota,fun f hf=>?_,hist_more h.hist (by simp [dGrow]),h.chops,by have:=HOK.out.fops;simp [dGrow,dTick];omega,h.fail,h.rems⟩
      rcases List.mem_append.1 hf with hf | hf
      ·exact h.file f hf
      ·simp at hf;subst hf;simp
     have HGK:=Lib.hid hgk
     have HG:Hid (∀ w1,In F w w1 (DkR bd bn bsu vch ads (dTick d))→In F w (w1.alloc (.cells #[.slice none 0 0,.int .i64 0] 83)) (DkR bd bn bsu vch (ads++[w1.heap.size]) (dGrow (dTick d)))):=Lib.hid fun w1 h1=>by
      have h2:=(h1.cells #[.slice none 0 0,.int .i64 0] 83).rownil 5 1
      have h3:=In.fold (C:=FileA w1.heap.size ⟨[],0⟩) h2 0 rfl (FileA.framed _ _) (fun F hF=>⟨_,hF⟩)
      exact dk_grow h3 (dTick_ok HOK.out) HL.out
     have HCH:Hid (∀ w1 ads',In F w w1 (DkR bd bn bsu vch ads' (dGrow (dTick d)))→Calls Tryz.prog 135 #[.pointer (some ⟨bd,0,none⟩),aggC ads' (.made n d.files.length)] w1 (ChangePost (dGrow (dTick d)) bd bn bsu ads' (.made n d.files.length) F w)):=
      Lib.hid fun w1 ads' h1=>dk_change h1 HGK.out (by show d.ops+1≤_;omega) (.made n d.files.length) hn (fun a b e=>by cases e)
     clear hf e2 hnm e1 hr hr' hgk
     go_enter Tryz.func80,Tryz.ntmps80
     go_wp2_with fail
     refine HC.out.mono ?_
     rintro e w1 ⟨rfl,h1⟩
     rw [dkR_tick] at h1
     rw [HE.out]
     obtain⟨c1,l1⟩:=HLK.out w1 h1
     rw [HE1.out] at l1
     have HR1:=Lib.hid (HR.out w1 h1)
     simp only [lookV] at l1
     clear h1 HC HE HLK HR HE1
     go_wp2_with fail
     refine (HN.out w1).mono ?_
     rintro e w2 ⟨rfl,rfl⟩
     rw [HB.out]
     go_wp2_with fail
     refine HR1.out.mono ?_
     rintro e w3 ⟨rfl,h3⟩
     rw [HRT.out]
     have h4:=HG.out w3 h3
     have hp:ptrAt (ads++[w3.heap.size]) d.files.length=.pointer (some ⟨w3.heap.size,0,none⟩):=by
      unfold ptrAt;rw [← HL.out];simp
     have hc:=HCH.out _ _ h4
     unfold aggC at hc
     simp only [encC,hp] at hc
     have HCC:=Lib.hid hc
     clear h3 h4 hc HR1 HRT HG HCH hp
     go_wp2_with fail
     refine HCC.out.mono ?_
     rintro e w4 ⟨rfl,v',h4⟩
     have hi:d.files.length < (dChange (dGrow (dTick d)) (.made n d.files.length)).files.length:=by simp [dChange,dGrow,dTick]
     have hl2:(ads++[w3.heap.size]).length=(dChange (dGrow (dTick d)) (.made n d.files.length)).files.length:=by simp [dChange,dGrow,dTick,HL.out]
     have hfd:(dChange (dGrow (dTick d)) (.made n d.files.length)).files.getD d.files.length default=⟨[],0⟩:=by simp [dChange,dGrow,dTick]
     have haf:(ads++[w3.heap.size]).getD d.files.length 0=w3.heap.size:=by rw [← HL.out];simp
     have hF:=dkR_file (bd:=bd) (bn:=bn) (bs:=bsu) (vch:=v') hl2 hi
     rw [hfd,haf] at hF
     obtain⟨v,h5⟩:=h4.file (4+d.files.length) hF
     obtain⟨Fv,hv⟩:=h5.get 0 rfl
     obtain⟨av,cv,rfl,k1,k2,-⟩:=hv.shape
     have hlen:4+d.files.length < (DkR bd bn bsu v' (ads++[w3.heap.size]) (dChange (dGrow (dTick d)) (.made n d.files.length))).length:=(List.getElem?_eq_some_iff.1 hF).1
     have HLN:=Lib.hid hlen
     have hbk:=h5.block (4+d.files.length+1) (b:=w3.heap.size) (C:=#[.slice av 0 cv,.int .i64 (0:Nat)]) (T:=83) (by rw [List.getElem?_cons_succ,List.getElem?_set_self hlen];rfl)
     have c0:w4.cell? ⟨w3.heap.size,0,none⟩=some (.slice av 0 cv):=cell_of hbk rfl
     have SS:=Lib.hid (HS.out w4 h4.mod)
     have HP1:Hid (∀ w' v'',In F w w' (RowA 5 1 v'' ((0:Nat)+bs.length) (u8s []++u8s bs)::(DkR bd bn bsu v' (ads++[w3.heap.size]) (dChange (dGrow (dTick d)) (.made n d.files.length))).set (4+d.files.length) (Cells w3.heap.size #[.slice av 0 cv,.int .i64 (0:Nat)] 83)) →
       w'.cell? ⟨w3.heap.size,0,none⟩=some (.slice av 0 cv)∧w'.frozen? ⟨w3.heap.size,0,none⟩=false∧GV (.int .i64 (dAppend d n bs).2) (DkA bd (dAppend d n bs).1) w F (.returned (.int .i64 0)) (w'.setCell ⟨w3.heap.size,0,none⟩ v'')):=Lib.hid fun w' v'' h'=>by
      have hb:=h'.block (4+d.files.length+1) (b:=w3.heap.size) (C:=#[.slice av 0 cv,.int .i64 (0:Nat)]) (T:=83) (by rw [List.getElem?_cons_succ,List.getElem?_set_self HLN.out])
      refine⟨cell_of hb rfl,free_of hb,HP.out _ v' (ads++[w3.heap.size]) (by simp [HL.out]) ?_⟩
      have h2:=file_write (f:=⟨[],0⟩) (bs:=bs) (4+d.files.length) HLN.out h'
      have h5:=dkR_set (bd:=bd) (bn:=bn) (bs:=bsu) (vch:=v') hl2 hi ⟨[]++bs,0⟩
      rw [haf] at h5
      unfold dWrite
      rw [hfd,← h5]
      exact h2
     have H5:Hid (In F w w4 (RowA 5 1 (.slice av 0 cv) 0 (u8s [])::(DkR bd bn bsu v' (ads++[w3.heap.size]) (dChange (dGrow (dTick d)) (.made n d.files.length))).set (4+d.files.length) (Cells w3.heap.size #[.slice av 0 cv,.int .i64 (0:Nat)] 83))):=Lib.hid h5
     clear h4 h5 hv hbk hF hlen hi hl2 hfd haf HCC HP
     go_wp2_with (at_builtin;refine app_list rfl H5.out 0 rfl (.tmp 42) (.tmp 43) 41 (by rfl) Tryz.underlying41 infoByte (by decide) (by decide) (by rfl) (by rfl) SS.out (u8s_one _) (by omega) ?_)
     intro v2 w5 h6 hg
     obtain⟨Fw,hw⟩:=h6.get 0 rfl
     obtain⟨aw,cw,rfl,-,-,-⟩:=hw.shape
     obtain⟨d0,d1,hfin⟩:=HP1.out w5 _ (by rw [Nat.zero_add];exact h6)
     have HF:=Lib.hid hfin
     clear h6 hw hfin hg H5 SS HP1
     go_wp2_with fail
     go_ret
     exact HF.out
    ·have hr':dRoom d none bs.length=false:=by simpa using hr
     have e2:dAppend d n bs=(dTick d,7):=by unfold dAppend;rw [if_neg hf,e1];simp [hnm,hr']
     have HP:Hid (∀ w',In F w w' (DkR bd bn bsu vch ads (dTick d))→GV (.int .i64 (dAppend d n bs).2) (DkA bd (dAppend d n bs).1) w F (.returned (.int .i64 7)) w'):=
      Lib.hid fun w' h'=>by have:=hok'.out;rw [e2] at this ⊢;exact dk_close h' this HL.out
     have HR:=Lib.hid (fun w1 (h1:In F w w1 (DkR bd bn bsu vch ads (dTick d)))=>dk_room_none h1 (dTick_ok HOK.out) HL.out (k:=bs.length) (by omega))
     have hr2:dRoom (dTick d) none bs.length=false:=hr'
     have HRT:=Lib.hid hr2
     have HE1:=Lib.hid e1
     clear hf e2 hnm e1 hr hr' hr2
     go_enter Tryz.func80,Tryz.ntmps80
     go_wp2_with fail
     refine HC.out.mono ?_
     rintro e w1 ⟨rfl,h1⟩
     rw [dkR_tick] at h1
     rw [HE.out]
     obtain⟨c1,l1⟩:=HLK.out w1 h1
     rw [HE1.out] at l1
     have HR1:=Lib.hid (HR.out w1 h1)
     simp only [lookV] at l1
     clear h1 HC HE HLK HR HE1
     go_wp2_with fail
     refine (HN.out w1).mono ?_
     rintro e w2 ⟨rfl,rfl⟩
     rw [HB.out]
     go_wp2_with fail
     refine HR1.out.mono ?_
     rintro e w3 ⟨rfl,h3⟩
     rw [HRT.out]
     have HF:=Lib.hid (HP.out w3 h3)
     clear h3 HR1 HRT HP
     go_wp2_with fail
     go_ret
     exact HF.out
  ·have hb':namedB n=false:=by simpa using hnm
   have e2:dAppend d n bs=(dTick d,1):=by unfold dAppend;rw [if_neg hf];simp [hb']
   have HP:Hid (∀ w',In F w w' (DkR bd bn bsu vch ads (dTick d))→GV (.int .i64 (dAppend d n bs).2) (DkA bd (dAppend d n bs).1) w F (.returned (.int .i64 1)) w'):=
    Lib.hid fun w' h'=>by have:=hok'.out;rw [e2] at this ⊢;exact dk_close h' this HL.out
   have HB:=Lib.hid hb'
   clear hf e2 hnm hb'
   go_enter Tryz.func80,Tryz.ntmps80
   go_wp2_with fail
   refine HC.out.mono ?_
   rintro e w1 ⟨rfl,h1⟩
   rw [dkR_tick] at h1
   rw [HE.out]
   have HF:=Lib.hid (HP.out w1 h1)
   clear h1 HC HE HLK HP
   go_wp2_with fail
   refine (HN.out w1).mono ?_
   rintro e w2 ⟨rfl,rfl⟩
   rw [HB.out]
   go_wp2_with fail
   go_ret
   exact HF.out
end
section
variable {F0:List Nat} {w0 w:World} {R:List Asrt}
variable {bd:Nat} {d:DiskD}
abbrev dptr (bd:Nat):Value:=.pointer (some ⟨bd,0,none⟩)
theorem o_dsync (h:In F0 w0 w R) (i:Nat) (hA:R[i]?=some (DkA bd d)) (ho:d.ops≤100000000) (n:ByteArray) (hn:n.size≤maxLen) :
  Calls Tryz.prog 47 #[dptr bd,.string n] w fun e w'=>e=.returned (.int .i64 (dSync d n).2)∧In F0 w0 w' (R.set i (DkA bd (dSync d n).1)):=
 own_val h i hA (DkA.framed _ _) fun F hF=>dsync hF ho n hn
theorem o_dremove (h:In F0 w0 w R) (i:Nat) (hA:R[i]?=some (DkA bd d)) (ho:d.ops≤100000000) (n:ByteArray) (hn:n.size≤maxLen) :
  Calls Tryz.prog 91 #[dptr bd,.string n] w fun e w'=>e=.returned (.int .i64 (dRemove d n).2)∧In F0 w0 w' (R.set i (DkA bd (dRemove d n).1)):=
 own_val h i hA (DkA.framed _ _) fun F hF=>dremove hF ho n hn
theorem o_drename (h:In F0 w0 w R) (i:Nat) (hA:R[i]?=some (DkA bd d)) (ho:d.ops≤100000000) (n m:ByteArray) (hn:n.size≤maxLen) (hm:m.size≤maxLen) :
  Calls Tryz.prog 107 #[dptr bd,.string n,.string m] w fun e w'=>e=.returned (.int .i64 (dRename d n m).2)∧In F0 w0 w' (R.set i (DkA bd (dRename d n m).1)):=
 own_val h i hA (DkA.framed _ _) fun F hF=>drename hF ho n m hn hm
theorem o_dsyncdir (h:In F0 w0 w R) (i:Nat) (hA:R[i]?=some (DkA bd d)) (ho:d.ops≤100000000) :
  Calls Tryz.prog 87 #[dptr bd] w fun e w'=>e=.returned (.int .i64 (dSyncDir d).2)∧In F0 w0 w' (R.set i (DkA bd (dSyncDir d).1)):=
 own_val h i hA (DkA.framed _ _) fun F hF=>dsyncdir hF ho
theorem o_dappend (h:In F0 w0 w R) (i:Nat) (hA:R[i]?=some (DkA bd d)) (ho:d.ops≤100000000) (n:ByteArray) (hn:n.size≤maxLen) (j:Nat) (hij:j≠i) {a:Option Addr} {c:Nat} {bs:List UInt8} (hB:R[j]?=some (RowA 5 1 (.slice a bs.length c) bs.length (u8s bs))) (hm:bs.length≤10000000) :
  Calls Tryz.prog 80 #[dptr bd,.string n,.slice a bs.length c] w fun e w'=>e=.returned (.int .i64 (dAppend d n bs).2)∧In F0 w0 w' (R.set i (DkA bd (dAppend d n bs).1)):=
 own_valX h i hA (DkA.framed _ _) fun F G hF hG hFG _=>by
  refine dappend hF ho n hn hm fun w' hw'=>?_
  obtain⟨k,hk⟩:∃ k:Nat,(R.eraseIdx i)[k]?=some (RowA 5 1 (.slice a bs.length c) bs.length (u8s bs)):=by
   have:RowA 5 1 (.slice a bs.length c) bs.length (u8s bs)∈R.eraseIdx i:=List.mem_eraseIdx_iff_getElem?.2 ⟨j,hij,hB⟩
   exact List.mem_iff_getElem?.1 this
  obtain⟨G',⟨G1,G2,g1,g2,g3,rfl⟩,hp⟩:=star_perm (front hk) hG
  have g4:RowA 5 1 (.slice a bs.length c) bs.length (u8s bs) w' G1:=(RowA.framed _ _ _ _ _).keep g1 (fun b hb=>hw'.block b ((RowA.framed _ _ _ _ _).lt g1 b hb) (fun hbF=>hFG b hbF (hp.mem_iff.2 (List.mem_append_left _ hb))))
  exact g4.all
theorem o_dappend_nil (h:In F0 w0 w R) (i:Nat) (hA:R[i]?=some (DkA bd d)) (ho:d.ops≤100000000) (n:ByteArray) (hn:n.size≤maxLen) :
  Calls Tryz.prog 80 #[dptr bd,.string n,.slice none 0 0] w fun e w'=>e=.returned (.int .i64 (dAppend d n []).2)∧In F0 w0 w' (R.set i (DkA bd (dAppend d n []).1)):=
 own_val h i hA (DkA.framed _ _) fun F hF=>dappend hF ho n hn (by simp) fun w' _=>Src.nil w' none 1
theorem file_at' {a:Nat} {f:FileD} (h:In F0 w0 w R) (i:Nat) (hA:R[i]?=some (FileA a f)):(w.heap[a]?=some (.cells #[.slice none 0 0,.int .i64 f.sure] 83 (0,0))∧f.b=[])∨∃ ad cap,w.heap[a]?=some (.cells #[.slice (some ad) f.b.length cap,.int .i64 f.sure] 83 (0,0))∧cap≤maxLen∧f.b.length≤cap∧Src w (some ad) f.b.length 1 (u8s f.b):=by
 obtain⟨v,h1⟩:=h.file i hA
 have hi:=(List.getElem?_eq_some_iff.1 hA).1
 obtain⟨F,hr⟩:=h1.get 0 rfl
 have hb:=h1.block (i+1) (b:=a) (C:=#[v,.int .i64 f.sure]) (T:=83) (by simp [hi])
 obtain⟨h0,h2 | ⟨g,cap,cur,rfl,_⟩⟩:=hr.2
 ·obtain⟨rfl,h3⟩:=h2
  exact Or.inl ⟨hb,List.length_eq_zero_iff.1 h3⟩
 ·obtain⟨a',c',e,k1,k2,_⟩:=hr.shape
  cases e
  exact Or.inr ⟨_,_,hb,k2,k1,hr.all⟩
def ReadPost (d:DiskD) (n:ByteArray) (F0:List Nat) (w0:World) (R:List Asrt) (e:Ending) (w':World):Prop:=
 ∃ v,e=.returned (.tuple #[v,.bool (dRead d n).isSome])∧In F0 w0 w' (RowA 5 1 v ((dRead d n).getD []).length (u8s ((dRead d n).getD []))::R)
theorem o_dread (h:In F0 w0 w R) (i:Nat) (hA:R[i]?=some (DkA bd d)) (n:ByteArray) (hn:n.size≤maxLen) :
  Calls Tryz.prog 14 #[dptr bd,.string n] w (ReadPost d n F0 w0 R):=by
 obtain⟨F,hok,bn,bsu,vch,ads,hl,hF⟩:=h.get i hA
 have h1:=In.start DkR.framed hF
 have c1:w.cell? ⟨bd,1,none⟩=some (.map (some bn)):=cell_of (h1.block 0 dkR_cells) rfl
 have l1:=nm_look h1 1 dkR_now hok.now.row hn
 have H:=Lib.hid h
 cases e:nmAt d.now n with
 | none=>
  have e2:dRead d n=none:=by unfold dRead;rw [e];rfl
  have HP:Hid (ReadPost d n F0 w0 R (.returned (.tuple #[.slice none 0 0,.bool false])) w):=Lib.hid ⟨_,by rw [e2];rfl,by rw [e2];exact H.out.rownil _ _⟩
  rw [e] at l1
  simp only [lookV] at l1
  clear h h1 hF hA hok hl e e2
  go_enter Tryz.func14,Tryz.ntmps14
  go_wp2_with fail
  go_ret2
  exact HP.out
 | some k=>
  have hk:=hok.at e
  have e2:dRead d n=some (d.files.getD k default).b:=by unfold dRead;rw [e];rfl
  have hfl:=(hok.file _ (getD_mem hk)).1
  have hfa:=file_at' h1 (4+k) (dkR_file hl hk)
  rw [e] at l1
  obtain⟨af,haf⟩:∃ af,ads.getD k 0=af:=⟨_,rfl⟩
  simp only [lookV,ptrAt,haf] at l1 hfa
  rcases hfa with ⟨hb,hnil⟩|⟨ad,cap,hb,k2,k1,hs⟩
  ·have HP:Hid (∀ v w',In F0 w0 w' (RowA 5 1 v 0 (u8s [])::R)→ReadPost d n F0 w0 R (.returned (.tuple #[v,.bool true])) w'):=Lib.hid fun v w' h'=>⟨v,by rw [e2];rfl,by rw [e2];simp only [Option.getD_some];rw [hnil];exact h'⟩
   have HC:=Lib.hid (clone_none H.out)
   have c0:w.cell? ⟨af,0,none⟩=some (.slice none 0 0):=cell_of hb rfl
   clear h h1 hF hA hok hl e e2 haf hb hnil hk
   go_enter Tryz.func14,Tryz.ntmps14
   go_wp2_with fail
   refine HC.out.mono ?_
   rintro e w1 ⟨v,rfl,h1⟩
   have HF:=Lib.hid (HP.out v w1 h1)
   clear h1 HP HC
   go_wp2_with fail
   go_ret2
   exact HF.out
  ·have HP:Hid (∀ v w',In F0 w0 w' (RowA 5 1 v (d.files.getD k default).b.length (u8s (d.files.getD k default).b)::R)→ReadPost d n F0 w0 R (.returned (.tuple #[v,.bool true])) w'):=Lib.hid fun v w' h'=>⟨v,by rw [e2];rfl,by rw [e2];exact h'⟩
   have HC:=Lib.hid (clone_some (c:=cap) H.out hs (by omega))
   have c0:w.cell? ⟨af,0,none⟩=some (.slice (some ad) (d.files.getD k default).b.length cap):=cell_of hb rfl
   clear h h1 hF hA hok hl e e2 haf hb hs hk
   generalize (d.files.getD k default)=f at *
   go_enter Tryz.func14,Tryz.ntmps14
   go_wp2_with fail
   refine HC.out.mono ?_
   rintro e w1 ⟨v,rfl,h1⟩
   have HF:=Lib.hid (HP.out v w1 h1)
   clear h1 HP HC
   go_wp2_with fail
   go_ret2
   exact HF.out
theorem o_dops (h:In F0 w0 w R) (i:Nat) (hA:R[i]?=some (DkA bd d)):Calls Tryz.prog 13 #[dptr bd] w fun e w'=>e=.returned (.int .i64 d.ops)∧w'=w:=by
 obtain⟨F,hok,bn,bsu,vch,ads,hl,hF⟩:=h.get i hA
 have c4:w.cell? ⟨bd,4,none⟩=some (.int .i64 d.ops):=cell_of ((In.start DkR.framed hF).block 0 dkR_cells) rfl
 clear h hA hok hl hF
 go_enter Tryz.func13,Tryz.ntmps13
 go_wp2_with fail
 go_ret
 exact⟨rfl,rfl⟩
theorem o_dnew (h:In F0 w0 w R) (q:Int) (hq1:-9223372036854775808≤q) (hq2:q≤9223372036854775807) :
  Calls Tryz.prog 6 #[.int .i64 q] w fun e w'=>∃ bd,e=.returned (dptr bd)∧In F0 w0 w' (DkA bd (dNew q)::R):=by
 have h1:=tab_make h Tryz.prog 9 ekN (evN [])
 have h2:=tab_make h1 Tryz.prog 9 ekN (evN [])
 have e1:(w.alloc (Obj.map #[] 0)).heap.size=w.heap.size+1:=Array.size_push _
 have e2:((w.alloc (Obj.map #[] 0)).alloc (Obj.map #[] 0)).heap.size=w.heap.size+1+1:=by rw [show ((w.alloc (Obj.map #[] 0)).alloc (Obj.map #[] 0)).heap.size=(w.alloc (Obj.map #[] 0)).heap.size+1 from Array.size_push _,e1]
 have h3:=(h2.cells #[.int .i64 (max 0 (min q 67108864)),.map (some w.heap.size),.map (some (w.heap.size+1)),.slice none 0 0,.int .i64 0,.int .i64 0] 64).rownil 86 4
 rw [e1,e2] at h3
 have HF:Hid (∃ bd,Ending.returned (.pointer (some ⟨w.heap.size+1+1,0,none⟩))=Ending.returned (dptr bd)∧In F0 w0 (((w.alloc (Obj.map #[] 0)).alloc (Obj.map #[] 0)).alloc (.cells #[.int .i64 (max 0 (min q 67108864)),.map (some w.heap.size),.map (some (w.heap.size+1)),.slice none 0 0,.int .i64 0,.int .i64 0] 64)) (DkA bd (dNew q)::R)):=Lib.hid ⟨_,rfl,by
  have h4:=In.sel2 (R1:=[_,_,_,_]) (R2:=R) h3 [1,3,2,0] (by decide) rfl
  have h5:=In.join (A1:=[_,_,_,_]) (R:=R) h4
  refine h5.imp (A':=DkA (w.heap.size+1+1) (dNew q)) 0 rfl (DkA.framed _ _) (fun F hF=>⟨dNew_ok q,w.heap.size,w.heap.size+1,.slice none 0 0,[],rfl,?_⟩)
  have e3:((max 0 (min q 67108864):Int))=((dNew q).quota:Int):=by simp [dNew]
  have e4:dkCells (dNew q) w.heap.size (w.heap.size+1) (.slice none 0 0)=#[.int .i64 (max 0 (min q 67108864)),.map (some w.heap.size),.map (some (w.heap.size+1)),.slice none 0 0,.int .i64 0,.int .i64 0]:=by
   unfold dkCells;rw [e3];rfl
  unfold DkR
  rw [e4]
  exact hF⟩
 clear h h1 h2 h3 e1 e2
 have hmm:=@run_makeMap Tryz.prog
 go_enter Tryz.func6,Tryz.ntmps6
 go_wp2_with fail
 all_goals
  go_ret
  have hh:=HF.out
  first
   | (rw [show (max 0 (min q 67108864):Int)=67108864 by omega] at hh;exact hh)
   | (rw [show (max 0 (min q 67108864):Int)=q by omega] at hh;exact hh)
   | (rw [show (max 0 (min q 67108864):Int)=0 by omega] at hh;exact hh)
end
section
variable {F0:List Nat} {w0 w:World} {R:List Asrt}
theorem row_pre {T:TypeId} {a:Option Addr} {n' n cap m:Nat} {xs:List Value} {F:List Nat} (h:RowA T 1 (.slice a n' cap) n xs w F) (hm:m≤n):RowA T 1 (.slice a m cap) m (xs.take m) w F:=by
 obtain⟨h0,h1,h2⟩:=h
 have hl:(xs.take m).length=m * 1:=by rw [List.length_take,h1];omega
 rcases h2 with ⟨e,e2⟩|⟨g,c,cur,e,h3,h4,h5,h6,h7,h8⟩
 ·cases e;subst e2
  obtain rfl:m=0:=by omega
  exact⟨h0,hl,Or.inl ⟨rfl,rfl⟩⟩
 ·cases e
  refine⟨h0,hl,Or.inr ⟨g,cap,cur,rfl,h3,h4,by omega,h6,h7,?_⟩⟩
  rw [← h8,List.take_take]
  congr 1;omega
theorem file_cut {a:Nat} {f:FileD} {ad:Option Addr} {cap:Nat} {m:Nat} (hm:m≤f.b.length) (i:Nat) (hi:i < R.length) (h:In F0 w0 w (RowA 5 1 (.slice ad f.b.length cap) f.b.length (u8s f.b)::R.set i (Cells a #[.slice ad f.b.length cap,.int .i64 f.sure] 83))) :
  In F0 w0 ((w.setCell ⟨a,0,none⟩ (.slice ad m cap)).setCell ⟨a,1,none⟩ (.int .i64 m)) (R.set i (FileA a ⟨f.b.take m,m⟩)):=by
 have h1:=h.put (b:=a) (C:=#[.slice ad f.b.length cap,.int .i64 f.sure]) (T:=83) (i+1) (by simp [hi]) 0 (.slice ad m cap)
 have h2:In F0 w0 (w.setCell ⟨a,0,none⟩ (.slice ad m cap)) (RowA 5 1 (.slice ad f.b.length cap) f.b.length (u8s f.b)::R.set i (Cells a #[.slice ad m cap,.int .i64 f.sure] 83)):=by
  simpa [List.set_set] using h1
 have h3:=h2.put (b:=a) (C:=#[.slice ad m cap,.int .i64 f.sure]) (T:=83) (i+1) (by simp [hi]) 1 (.int .i64 m)
 have h4:In F0 w0 ((w.setCell ⟨a,0,none⟩ (.slice ad m cap)).setCell ⟨a,1,none⟩ (.int .i64 m)) (RowA 5 1 (.slice ad f.b.length cap) f.b.length (u8s f.b)::R.set i (Cells a #[.slice ad m cap,.int .i64 m] 83)):=by
  simpa [List.set_set] using h3
 have h5:=h4.imp (A':=RowA 5 1 (.slice ad m cap) (f.b.take m).length (u8s (f.b.take m))) 0 rfl (RowA.framed _ _ _ _ _) (fun F hF=>by
  have:=row_pre hF hm
  rw [u8s_take] at this
  rwa [List.length_take,Nat.min_eq_left hm])
 have:=In.unfile (a:=a) (v:=.slice ad m cap) (f:=⟨f.b.take m,m⟩) h5 i (by simp [hi])
 rwa [List.set_set] at this
theorem dcut {d:DiskD} {bd:Nat} {F:List Nat} (h:DkA bd d w F) (ho:d.ops≤100000000) (n:ByteArray) (hn:n.size≤maxLen) (k:Int) :
  Calls Tryz.prog 85 #[dptr bd,.string n,.int .i64 k] w (GV (.int .i64 (dCut d n k).2) (DkA bd (dCut d n k).1) w F):=by
 obtain⟨hok,bn,bs,vch,ads,hl,h⟩:=h
 have HC:=Lib.hid (dk_find (In.start DkR.framed h) hok ho n hn)
 have hok':=dCut_ok hok n k
 rcases find_cases d n with ⟨hne,_⟩|⟨he,hf,i,h1,hv⟩
 ·have HP:Hid (∀ w',In F w w' (DkR bd bn bs vch ads (dTick d))→GV (.int .i64 (dCut d n k).2) (DkA bd (dCut d n k).1) w F (.returned (.int .i64 (findE d n))) w'):=
   Lib.hid fun w' h'=>by rw [dCut_err hne];exact dk_close h' (dTick_ok hok) hl
  have q:(findE d n != 0)=true:=by rw [bne_iff_ne];exact hne
  clear h hok hok' hl hne
  go_enter Tryz.func85,Tryz.ntmps85
  go_wp2_with fail
  refine HC.out.mono ?_
  rintro e w1 ⟨rfl,h1⟩
  have HF:=Lib.hid (HP.out w1 h1)
  clear h1 HC HP
  generalize findE d n=fe at *
  go_wp2_with fail
  go_ret
  exact HF.out
 ·have hi:=hok.at h1
  have hfl:=(hok.file _ (getD_mem hi)).1
  have HE:=Lib.hid (And.intro he (hv ads))
  obtain⟨af,haf⟩:∃ af,ads.getD i 0=af:=⟨_,rfl⟩
  have CF:Hid (∀ w',In F w w' (DkR bd bn bs vch ads (dTick d))→∃ ad cap,w'.cell? ⟨af,0,none⟩=some (.slice ad (d.files.getD i default).b.length cap)∧w'.cell? ⟨af,1,none⟩=some (.int .i64 (d.files.getD i default).sure)∧w'.frozen? ⟨af,0,none⟩=false∧w'.frozen? ⟨af,1,none⟩=false∧(d.files.getD i default).b.length≤cap∧cap≤maxLen∧(ad=none∨∃ g,ad=some ⟨g,0,none⟩) ∧
    (∀ m:Nat,m≤(d.files.getD i default).b.length→In F w ((w'.setCell ⟨af,0,none⟩ (.slice ad m cap)).setCell ⟨af,1,none⟩ (.int .i64 m)) (DkR bd bn bs vch ads (dSet (dTick d) i ⟨(d.files.getD i default).b.take m,m⟩)))):=
   Lib.hid fun w' h'=>by
    have hF:=dkR_file (bd:=bd) (bn:=bn) (bs:=bs) (vch:=vch) (d:=dTick d) hl hi
    rw [haf] at hF
    obtain⟨v,h4⟩:=h'.file (4+i) hF
    obtain⟨Fv,hv⟩:=h4.get 0 rfl
    have hlen:4+i < (DkR bd bn bs vch ads (dTick d)).length:=(List.getElem?_eq_some_iff.1 hF).1
    obtain⟨av,cv,rfl,k1,k2,-⟩:=hv.shape
    have hbk:=h4.block (4+i+1) (b:=af) (C:=#[.slice av (d.files.getD i default).b.length cv,.int .i64 (d.files.getD i default).sure]) (T:=83) (by rw [List.getElem?_cons_succ,List.getElem?_set_self hlen];rfl)
    refine⟨av,cv,cell_of hbk rfl,cell_of hbk rfl,free_of hbk,free_of hbk,k1,k2,?_,fun m hm=>?_⟩
    ·obtain⟨_,h6 | ⟨g,c,cur,e,_⟩⟩:=hv.2
     ·have:=h6.1;simp only [Value.slice.injEq] at this;left;exact this.1
     ·simp only [Value.slice.injEq] at e;right;exact⟨g,e.1⟩
    ·have h5:=file_cut (f:=d.files.getD i default) hm (4+i) hlen h4
     have h6:=dkR_set (bd:=bd) (bn:=bn) (bs:=bs) (vch:=vch) (d:=dTick d) hl hi ⟨(d.files.getD i default).b.take m,m⟩
     rw [haf] at h6
     rw [← h6];exact h5
  by_cases hk:k < 0∨(flen d i:Int) < k
  ·have e2:dCut d n k=(dTick d,1):=by unfold dCut;rw [if_neg hf,h1];simp only;rw [if_pos hk]
   have HP:Hid (∀ w',In F w w' (DkR bd bn bs vch ads (dTick d))→GV (.int .i64 (dCut d n k).2) (DkA bd (dCut d n k).1) w F (.returned (.int .i64 1)) w'):=
    Lib.hid fun w' h'=>by rw [e2] at hok' ⊢;exact dk_close h' hok' hl
   unfold flen at hk
   clear h hok hok' hl e2 hf he hv h1
   have HAF:=Lib.hid haf
   clear haf
   generalize (d.files.getD i default)=f at *
   by_cases hk0:k < 0
   ·have q1:decide (k < 0)=true:=by simpa using hk0
    clear hk hk0
    go_enter Tryz.func85,Tryz.ntmps85
    go_wp2_with fail
    refine HC.out.mono ?_
    rintro e w1 ⟨rfl,h1⟩
    rw [HE.out.1,HE.out.2]
    have HF:=Lib.hid (HP.out w1 h1)
    clear h1 HC HP HE CF
    unfold ptrAt
    rw [HAF.out]
    go_wp2_with fail
    go_ret
    exact HF.out
   ·have hk2:(f.b.length:Int) < k:=by omega
    clear hk
    go_enter Tryz.func85,Tryz.ntmps85
    go_wp2_with fail
    refine HC.out.mono ?_
    rintro e w1 ⟨rfl,h1⟩
    rw [HE.out.1,HE.out.2]
    have HF:=Lib.hid (HP.out w1 h1)
    obtain⟨ad,cap,c0,-⟩:=CF.out w1 h1
    clear h1 HC HP HE CF
    unfold ptrAt
    rw [HAF.out]
    go_wp2_with fail
    go_ret
    exact HF.out
  ·have hk0:0≤k:=by omega
   obtain⟨m,rfl⟩:=Int.eq_ofNat_of_zero_le hk0
   have hml:m≤(d.files.getD i default).b.length:=by unfold flen at hk;omega
   have e2:dCut d n m=(dSet (dTick d) i ⟨(d.files.getD i default).b.take m,m⟩,0):=by unfold dCut;rw [if_neg hf,h1];simp only;rw [if_neg hk];simp
   have HP:Hid (∀ w',In F w w' (DkR bd bn bs vch ads (dSet (dTick d) i ⟨(d.files.getD i default).b.take m,m⟩))→GV (.int .i64 (dCut d n m).2) (DkA bd (dCut d n m).1) w F (.returned (.int .i64 0)) w'):=
    Lib.hid fun w' h'=>by rw [e2] at hok' ⊢;exact dk_close h' hok' (by simpa [dSet,dTick] using hl)
   have HAF:=Lib.hid haf
   have hs:∀ (ad:Option Addr) (l cap:Nat) (w':World),(ad=none∨∃ g,ad=some ⟨g,0,none⟩)→m≤cap→(Instr.slice 41 (.slice ad l cap) none (some (.int .i64 m)) none).run Tryz.prog w'=.ok (.slice ad m cap) w':=by
    intro ad l cap w' h1 h2
    rcases h1 with rfl | ⟨g,rfl⟩
    ·exact run_prefix_none Tryz.underlying41 infoByte _ _ _ h2 w'
    ·exact run_prefix Tryz.underlying41 infoByte _ _ _ _ h2 w'
   have HSL:=Lib.hid hs
   unfold flen at hk
   clear h hok hok' hl e2 hf he hv h1 haf hs hk0
   generalize (d.files.getD i default)=f at *
   have hk1:(m:Int)≤f.b.length:=by omega
   clear hk
   go_enter Tryz.func85,Tryz.ntmps85
   go_wp2_with fail
   refine HC.out.mono ?_
   rintro e w1 ⟨rfl,h1⟩
   rw [HE.out.1,HE.out.2]
   obtain⟨ad,cap,c0,c1,f0,f1,k1,k2,k3,hfin⟩:=CF.out w1 h1
   have HF:=Lib.hid (HP.out _ (hfin m hml))
   have hsl:=HSL.out ad f.b.length cap w1 k3 (by omega)
   clear h1 HC HP HE CF hfin k3
   unfold ptrAt
   rw [HAF.out]
   go_wp2_with fail
   go_ret
   exact HF.out
theorem o_dcut {d:DiskD} {bd:Nat} (h:In F0 w0 w R) (i:Nat) (hA:R[i]?=some (DkA bd d)) (ho:d.ops≤100000000) (n:ByteArray) (hn:n.size≤maxLen) (k:Int) :
  Calls Tryz.prog 85 #[dptr bd,.string n,.int .i64 k] w fun e w'=>e=.returned (.int .i64 (dCut d n k).2)∧In F0 w0 w' (R.set i (DkA bd (dCut d n k).1)):=
 own_val h i hA (DkA.framed _ _) fun F hF=>dcut hF ho n hn k
end
end Go.Proofs.YtpmmiljakbojaaaGreat
