/- Rows.StoreRefusesSaid -/
import Derived.Test.YtpmmiljakbojaaaGreatRF10
import Derived.Test.YtpmmiljakbojaaaGreatRF15
import Derived.Test.YtpmmiljakbojaaaGreatRF9
import Derived.BigQuiet
import Derived.Test.YtpmmiljakbojaaaGreatShelfGr
namespace Go.Proofs.YtpmmiljakbojaaaGreat
open Go.RowKit
set_option linter.unusedVariables false
set_option maxHeartbeats 64000000
set_option maxRecDepth 100000
theorem clearD_ops (n:ByteArray) (d:DiskD):(clearD n d).1.ops≤d.ops+1:=by
 unfold clearD;split
 ·have:=(dOps d n n [] 0).2.2.2.2.1;omega
 ·simp
theorem foldD_ops {g:List (DiskD→DiskD×Int)} {d:DiskD} (hg:∀ f∈g,∀ d,(f d).1.ops≤d.ops+1):(foldD g d).1.ops≤d.ops+g.length:=by
 suffices h:∀ (g:List (DiskD→DiskD×Int)) (r:DiskD×Int),(∀ f∈g,∀ d,(f d).1.ops≤d.ops+1)→(g.foldl thenD r).1.ops≤r.1.ops+g.length from h g (d,0) hg
 intro g
 induction g with
 | nil=>intro r _;simp
 | cons f g ih=>
  intro r hg
  have h1:=ih (thenD r f) (fun f' hf'=>hg f' (List.mem_cons_of_mem _ hf'))
  have h2:=hg f (by simp) r.1
  have h3:(thenD r f).1.ops≤r.1.ops+1:=by unfold thenD;split <;> omega
  rw [List.foldl_cons,List.length_cons];omega
theorem segName_size (s:Nat):(segName s).size≤maxLen:=by
 unfold segName maxLen;split
 ·exact Nat.zero_le _
 ·show 7≤_;omega
theorem dRead_some (d:DiskD) (n:ByteArray):(dRead d n).isSome=(nmAt d.now n).isSome:=by simp [dRead]
section
variable {F0:List Nat} {w0 w:World} {R:List Asrt} {bd:Nat} {d:DiskD}
theorem o_there (h:In F0 w0 w R) (i:Nat) (hA:R[i]?=some (DkA bd d)) (n:ByteArray) (hn:n.size≤maxLen) :
  Calls Tryz.prog 42 #[dptr bd,.string n] w fun e w'=>e=.returned (.bool (nmAt d.now n).isSome)∧In F0 w0 w' R:=by
 have C:=Lib.hid (o_dread h i hA n hn)
 have HD:=Lib.hid (dRead_some d n)
 have HQ:Hid (∃ q,(nmAt d.now n).isSome=q):=Lib.hid ⟨_,rfl⟩
 clear h hA
 go_enter Tryz.func42,Tryz.ntmps42
 go_wp2_with fail
 refine C.out.mono ?_
 rintro e w1 ⟨v,rfl,g⟩
 have G:=Lib.hid g.drop
 clear g C
 rw [HD.out]
 obtain⟨q,hq⟩:=HQ.out
 rw [hq]
 have HB:=Lib.hid hq
 clear hq HQ HD
 go_wp2_with fail
 go_ret
 exact⟨by rw [HB.out];rfl,G.out⟩
theorem o_clear (h:In F0 w0 w R) (i:Nat) (hA:R[i]?=some (DkA bd d)) (ho:d.ops≤100000000) (n:ByteArray) (hn:n.size≤maxLen) :
  Calls Tryz.prog 99 #[dptr bd,.string n] w fun e w'=>e=.returned (.int .i64 (clearD n d).2)∧In F0 w0 w' (R.set i (DkA bd (clearD n d).1)):=by
 have C:=Lib.hid (o_there h i hA n hn)
 have C2:=Lib.hid (fun w' (h':In F0 w0 w' R)=>o_dremove h' i hA ho n hn)
 cases hq:(nmAt d.now n).isSome with
 | false=>
  have HE:Hid (clearD n d=(d,0)):=Lib.hid (by unfold clearD;rw [hq];rfl)
  have HS:=Lib.hid (set_same hA)
  rw [hq] at C
  clear h hA hq
  go_enter Tryz.func99,Tryz.ntmps99
  go_wp2_with fail
  refine C.out.mono ?_
  rintro e w1 ⟨rfl,g⟩
  have G:=Lib.hid g
  clear g C C2
  go_wp2_with fail
  go_ret
  exact⟨by rw [HE.out];rfl,by rw [HE.out,HS.out];exact G.out⟩
 | true=>
  have HE:Hid (clearD n d=dRemove d n):=Lib.hid (by unfold clearD;rw [hq];rfl)
  rw [hq] at C
  clear h hA hq
  go_enter Tryz.func99,Tryz.ntmps99
  go_wp2_with fail
  refine C.out.mono ?_
  rintro e w1 ⟨rfl,g⟩
  have K:=Lib.hid (C2.out w1 g)
  clear g C C2
  go_wp2_with fail
  refine K.out.mono ?_
  rintro e w2 ⟨rfl,g⟩
  have G:=Lib.hid g
  clear g K
  go_wp2_with fail
  go_ret
  exact⟨by rw [HE.out];rfl,by rw [HE.out];exact G.out⟩
/-! The closures of begin. -/
theorem begin1 (h:In F0 w0 w R) (i:Nat) (hA:R[i]?=some (DkA bd d)) (ho:d.ops≤100000000) (n:ByteArray) (hn:n.size≤maxLen) {db nb:Nat} (j k:Nat) (hj:R[j]?=some (Cells db #[dptr bd] 26)) (hk:R[k]?=some (Cells nb #[.string n] 9)) :
  Calls Tryz.prog 98 #[.pointer (some ⟨db,0,none⟩),.pointer (some ⟨nb,0,none⟩)] w fun e w'=>e=.returned (.int .i64 (clearD n d).2)∧In F0 w0 w' (R.set i (DkA bd (clearD n d).1)):=by
 have c0:w.cell? ⟨db,0,none⟩=some (dptr bd):=cell_of (h.block j hj) rfl
 have c1:w.cell? ⟨nb,0,none⟩=some (.string n):=cell_of (h.block k hk) rfl
 have C:=Lib.hid (o_clear h i hA ho n hn)
 clear h hA hj hk
 go_enter Tryz.func98,Tryz.ntmps98
 go_wp2_with fail
 refine C.out.mono ?_
 rintro e w1 ⟨rfl,g⟩
 have G:=Lib.hid g
 clear g C
 go_wp2_with fail
 go_ret
 exact⟨rfl,G.out⟩
theorem begin2 (h:In F0 w0 w R) (i:Nat) (hA:R[i]?=some (DkA bd d)) (ho:d.ops≤100000000) (n:ByteArray) (hn:n.size≤maxLen) {db nb:Nat} (j k:Nat) (hj:R[j]?=some (Cells db #[dptr bd] 26)) (hk:R[k]?=some (Cells nb #[.string n] 9)) :
  Calls Tryz.prog 100 #[.pointer (some ⟨db,0,none⟩),.pointer (some ⟨nb,0,none⟩)] w fun e w'=>e=.returned (.int .i64 (dAppend d n []).2)∧In F0 w0 w' (R.set i (DkA bd (dAppend d n []).1)):=by
 have c0:w.cell? ⟨db,0,none⟩=some (dptr bd):=cell_of (h.block j hj) rfl
 have c1:w.cell? ⟨nb,0,none⟩=some (.string n):=cell_of (h.block k hk) rfl
 have C:=Lib.hid (o_dappend_nil h i hA ho n hn)
 clear h hA hj hk
 go_enter Tryz.func100,Tryz.ntmps100
 go_wp2_with fail
 refine C.out.mono ?_
 rintro e w1 ⟨rfl,g⟩
 have G:=Lib.hid g
 clear g C
 go_wp2_with fail
 go_ret
 exact⟨rfl,G.out⟩
theorem dApp_ops (d:DiskD) (n:ByteArray) (b:List UInt8):(dAppend d n b).1.ops≤d.ops+1:=by have:=(dOps d n n b 0).1;omega
theorem dSync_ops (d:DiskD) (n:ByteArray):(dSync d n).1.ops≤d.ops+1:=by have:=(dOps d n n [] 0).2.1;omega
theorem dRen_ops (d:DiskD) (n m:ByteArray):(dRename d n m).1.ops≤d.ops+1:=by have:=(dOps d n m [] 0).2.2.2.1;omega
theorem dDir_ops (d:DiskD):(dSyncDir d).1.ops≤d.ops+1:=by have:=(dOps d ByteArray.empty ByteArray.empty [] 0).2.2.2.2.2;omega
theorem beginD_ops (s:Nat) (d:DiskD):(beginD s d).1.ops≤d.ops+2:=by
 have h1:=clearD_ops (segName s) d
 have h2:=dApp_ops (clearD (segName s) d).1 (segName s) []
 unfold beginD thenD;split
 ·show (dAppend (clearD (segName s) d).1 (segName s) []).1.ops≤_;omega
 ·omega
theorem o_begin (h:In F0 w0 w R) (i:Nat) (hA:R[i]?=some (DkA bd d)) (ho:d.ops≤99999990) (s:Nat) (hs:s < 4611686018427387904) :
  Calls Tryz.prog 45 #[dptr bd,.int .i64 s] w fun e w'=>e=.returned (.int .i64 (beginD s d).2)∧In F0 w0 w' (R.set i (DkA bd (beginD s d).1)):=by
 have hi:=(List.getElem?_eq_some_iff.1 hA).1
 have h1:=h.cells #[dptr bd] 26
 have C1:=Lib.hid (o_name h1 s hs)
 have HSET:=Lib.hid (fun x:Asrt=>(show (R.set i x)[i]?=some x by rw [List.getElem?_set_self hi]))
 have HD:=Lib.hid (show R.set i (DkA bd d)=R from set_same hA)
 have hnm:=segName_size s
 have HFD:Hid (foldD [clearD (segName s),fun d=>dAppend d (segName s) []] d=beginD s d):=Lib.hid rfl
 have hent1:∀ args w',(callFunc 98 args).run Tryz.prog w'=.ok (.enter 98 args) w':=enters_of Tryz.func98 (by kernel_rfl) rfl
 have hent2:∀ args w',(callFunc 100 args).run Tryz.prog w'=.ok (.enter 100 args) w':=enters_of Tryz.func100 (by kernel_rfl) rfl
 have HENT:=Lib.hid (And.intro hent1 hent2)
 clear h h1 hent1 hent2
 generalize segName s=n at *
 go_enter Tryz.func45,Tryz.ntmps45
 go_wp2_with fail
 refine C1.out.mono ?_
 rintro e w1 ⟨rfl,g1⟩
 have g2:=g1.cells #[.string n] 9
 have g3:=g2.cells #[.func (.func 98) #[] #[.pointer (some ⟨w.heap.size,0,none⟩),.pointer (some ⟨w1.heap.size,0,none⟩)],.func (.func 100) #[] #[.pointer (some ⟨w.heap.size,0,none⟩),.pointer (some ⟨w1.heap.size,0,none⟩)]] 54
 simp only [World.size_alloc] at g3
 have K:=all_call (fun d'=>Cells (w1.heap.size+1) #[.func (.func 98) #[] #[.pointer (some ⟨w.heap.size,0,none⟩),.pointer (some ⟨w1.heap.size,0,none⟩)],.func (.func 100) #[] #[.pointer (some ⟨w.heap.size,0,none⟩),.pointer (some ⟨w1.heap.size,0,none⟩)]] 54::Cells w1.heap.size #[.string n] 9::Cells w.heap.size #[dptr bd] 26::R.set i (DkA bd d'))
  [clearD n,fun d=>dAppend d n []] [(98,#[.pointer (some ⟨w.heap.size,0,none⟩),.pointer (some ⟨w1.heap.size,0,none⟩)]),(100,#[.pointer (some ⟨w.heap.size,0,none⟩),.pointer (some ⟨w1.heap.size,0,none⟩)])] rfl (by simp) d (w1.heap.size+1) 2
  (w:=(w1.alloc (.cells #[.string n] 9)).alloc (.cells #[.func (.func 98) #[] #[.pointer (some ⟨w.heap.size,0,none⟩),.pointer (some ⟨w1.heap.size,0,none⟩)],.func (.func 100) #[] #[.pointer (some ⟨w.heap.size,0,none⟩),.pointer (some ⟨w1.heap.size,0,none⟩)]] 54))
  (fun s' w' h' j v hv=>cell_of (h'.block 0 rfl) (by rw [← hv];rcases j with _ | _ | j <;> simp [fnV]))
  (fun f hf=>by
   simp only [List.mem_cons,List.not_mem_nil,or_false] at hf
   rcases hf with rfl | rfl
   ·exact HENT.out.1
   ·exact HENT.out.2)
  (fun k f gi hf hg w' h0 h'=>by
   have hops:(foldD (([clearD n,fun d=>dAppend d n []]:List (DiskD→DiskD×Int)).take k) d).1.ops≤100000000:=by
    have:=foldD_ops (g:=([clearD n,fun d=>dAppend d n []]:List (DiskD→DiskD×Int)).take k) (d:=d) (fun f hf d=>by
     have:=List.mem_of_mem_take hf
     simp only [List.mem_cons,List.not_mem_nil,or_false] at this
     rcases this with rfl | rfl
     ·exact clearD_ops n d
     ·exact dApp_ops d n [])
    have h2:(([clearD n,fun d=>dAppend d n []]:List (DiskD→DiskD×Int)).take k).length≤2:=by rw [List.length_take];exact Nat.min_le_right _ _
    omega
   generalize foldD (([clearD n,fun d=>dAppend d n []]:List (DiskD→DiskD×Int)).take k) d=r at *
   rcases k with _ | _ | k
   ·cases hf;cases hg
    have:=begin1 h' (i+3) (HSET.out _) hops n hnm 2 1 rfl rfl
    simpa [List.set_set] using this
   ·cases hf;cases hg
    have:=begin2 h' (i+3) (HSET.out _) hops n hnm 2 1 rfl rfl
    simpa [List.set_set] using this
   ·simp at hf) (by rw [HD.out];exact g3)
 have KH:=Lib.hid K
 clear K g1 g2 g3 C1 hA hi HSET HD HENT
 go_wp2_with fail
 refine KH.out.mono ?_
 rintro e w2 ⟨rfl,g4⟩
 rw [HFD.out] at g4 ⊢
 have G:=Lib.hid g4.drop.drop.drop
 clear g4 KH
 go_wp2_with fail
 go_ret
 exact⟨rfl,G.out⟩
end
theorem nmHead_size:nmHead.size≤maxLen:=by show 1≤maxLen;unfold maxLen;omega
theorem nmFresh_size:nmFresh.size≤maxLen:=by show 5≤maxLen;unfold maxLen;omega
section
variable {F0:List Nat} {w0 w:World} {R:List Asrt} {bd:Nat} {d:DiskD}
theorem commit1 (h:In F0 w0 w R) (i:Nat) (hA:R[i]?=some (DkA bd d)) (ho:d.ops≤100000000) {db:Nat} (j:Nat) (hj:R[j]?=some (Cells db #[dptr bd] 26)) :
  Calls Tryz.prog 103 #[.pointer (some ⟨db,0,none⟩)] w fun e w'=>e=.returned (.int .i64 (clearD nmFresh d).2)∧In F0 w0 w' (R.set i (DkA bd (clearD nmFresh d).1)):=by
 have c0:w.cell? ⟨db,0,none⟩=some (dptr bd):=cell_of (h.block j hj) rfl
 have C:=Lib.hid (o_clear h i hA ho nmFresh nmFresh_size)
 clear h hA hj
 go_enter Tryz.func103,Tryz.ntmps103
 go_wp2_with fail
 refine C.out.mono ?_
 rintro e w1 ⟨rfl,g⟩
 have G:=Lib.hid g
 clear g C
 go_wp2_with fail
 go_ret
 exact⟨rfl,G.out⟩
theorem commit2 (h:In F0 w0 w R) (i:Nat) (hA:R[i]?=some (DkA bd d)) (ho:d.ops≤100000000) {db nb:Nat} (j k l:Nat) (hij:l≠i) (hj:R[j]?=some (Cells db #[dptr bd] 26))
  {a:Option Addr} {c:Nat} {bs:List UInt8} (hk:R[k]?=some (Cells nb #[.slice a bs.length c] 41)) (hB:R[l]?=some (RowA 5 1 (.slice a bs.length c) bs.length (u8s bs))) (hm:bs.length≤10000000) :
  Calls Tryz.prog 104 #[.pointer (some ⟨db,0,none⟩),.pointer (some ⟨nb,0,none⟩)] w fun e w'=>e=.returned (.int .i64 (dAppend d nmFresh bs).2)∧In F0 w0 w' (R.set i (DkA bd (dAppend d nmFresh bs).1)):=by
 have c0:w.cell? ⟨db,0,none⟩=some (dptr bd):=cell_of (h.block j hj) rfl
 have c1:w.cell? ⟨nb,0,none⟩=some (.slice a bs.length c):=cell_of (h.block k hk) rfl
 have C:=Lib.hid (o_dappend h i hA ho nmFresh nmFresh_size l hij hB hm)
 clear h hA hj hk hB
 go_enter Tryz.func104,Tryz.ntmps104
 go_wp2_with fail
 refine C.out.mono ?_
 rintro e w1 ⟨rfl,g⟩
 have G:=Lib.hid g
 clear g C
 go_wp2_with fail
 go_ret
 exact⟨rfl,G.out⟩
theorem commit3 (h:In F0 w0 w R) (i:Nat) (hA:R[i]?=some (DkA bd d)) (ho:d.ops≤100000000) {db:Nat} (j:Nat) (hj:R[j]?=some (Cells db #[dptr bd] 26)) :
  Calls Tryz.prog 105 #[.pointer (some ⟨db,0,none⟩)] w fun e w'=>e=.returned (.int .i64 (dSync d nmFresh).2)∧In F0 w0 w' (R.set i (DkA bd (dSync d nmFresh).1)):=by
 have c0:w.cell? ⟨db,0,none⟩=some (dptr bd):=cell_of (h.block j hj) rfl
 have C:=Lib.hid (o_dsync h i hA ho nmFresh nmFresh_size)
 clear h hA hj
 go_enter Tryz.func105,Tryz.ntmps105
 go_wp2_with fail
 refine C.out.mono ?_
 rintro e w1 ⟨rfl,g⟩
 have G:=Lib.hid g
 clear g C
 go_wp2_with fail
 go_ret
 exact⟨rfl,G.out⟩
theorem commit4 (h:In F0 w0 w R) (i:Nat) (hA:R[i]?=some (DkA bd d)) (ho:d.ops≤100000000) {db:Nat} (j:Nat) (hj:R[j]?=some (Cells db #[dptr bd] 26)) :
  Calls Tryz.prog 106 #[.pointer (some ⟨db,0,none⟩)] w fun e w'=>e=.returned (.int .i64 (dRename d nmFresh nmHead).2)∧In F0 w0 w' (R.set i (DkA bd (dRename d nmFresh nmHead).1)):=by
 have c0:w.cell? ⟨db,0,none⟩=some (dptr bd):=cell_of (h.block j hj) rfl
 have C:=Lib.hid (o_drename h i hA ho nmFresh nmHead nmFresh_size nmHead_size)
 clear h hA hj
 go_enter Tryz.func106,Tryz.ntmps106
 go_wp2_with fail
 refine C.out.mono ?_
 rintro e w1 ⟨rfl,g⟩
 have G:=Lib.hid g
 clear g C
 go_wp2_with fail
 go_ret
 exact⟨rfl,G.out⟩
theorem freshD_fold (m:ManD) (d:DiskD):foldD [clearD nmFresh,fun d=>dAppend d nmFresh (frBytes (manFr m)),fun d=>dSync d nmFresh,fun d=>dRename d nmFresh nmHead] d=freshD m d:=rfl
theorem freshD_ops (m:ManD) (d:DiskD):(freshD m d).1.ops≤d.ops+4:=by
 have h:=foldD_ops (g:=[clearD nmFresh,fun d=>dAppend d nmFresh (frBytes (manFr m)),fun d=>dSync d nmFresh,fun d=>dRename d nmFresh nmHead]) (d:=d) (fun f hf d=>by
  simp only [List.mem_cons,List.not_mem_nil,or_false] at hf
  rcases hf with rfl | rfl | rfl | rfl
  ·exact clearD_ops _ d
  ·exact dApp_ops d _ _
  ·exact dSync_ops d _
  ·exact dRen_ops d _ _)
 rw [freshD_fold] at h
 exact h
theorem commitD_ops (m:ManD) (d:DiskD):(commitD m d).1.ops≤d.ops+5:=by
 have h1:=freshD_ops m d
 have h2:=dDir_ops (freshD m d).1
 unfold commitD;split
 ·show d.ops≤_;omega
 ·split
  ·show (freshD m d).1.ops≤_;omega
  ·show (dSyncDir (freshD m d).1).1.ops≤_;omega
theorem o_commit (h:In F0 w0 w R) (i:Nat) (hA:R[i]?=some (DkA bd d)) (ho:d.ops≤99999990) (m:ManD) {A:Option Addr} {c:Nat} (hs:Segs F0 w0 R A m.segs) (hn:m.segs.length≤1000000000) :
  Calls Tryz.prog 50 #[dptr bd,manAgg m A c] w fun e w'=>e=.returned (.tuple #[.bool (commitD m d).2.1,.int .i64 (commitD m d).2.2])∧In F0 w0 w' (R.set i (DkA bd (commitD m d).1)):=by
 have hi:=(List.getElem?_eq_some_iff.1 hA).1
 have h1:=(h.cells #[dptr bd] 26).cells #[.int .i64 m.ver,.int .i64 m.next,.slice A m.segs.length c] 104
 have C1:=o_mfenc h1 m (A:=A) (c:=c) (fun w' h'=>hs w' h'.drop.drop) hn
 simp only [World.size_alloc] at C1
 have HD:=Lib.hid (show R.set i (DkA bd d)=R from set_same hA)
 have HSET:=Lib.hid (fun x:Asrt=>(show (R.set i x)[i]?=some x by rw [List.getElem?_set_self hi]))
 have K1:=Lib.hid C1
 clear h h1 hs C1 hA
 by_cases hm:mayM m=false
 ·have HF:Hid (commitD m d=(d,false,1)):=Lib.hid (by unfold commitD;rw [if_pos hm])
  have HE:Hid (manEnc m=([],1)):=Lib.hid (by unfold manEnc;rw [hm];rfl)
  clear hm
  unfold manAgg at K1 ⊢
  go_enter Tryz.func50,Tryz.ntmps50
  go_wp2_with fail
  refine K1.out.mono ?_
  rintro e w1 ⟨v,rfl,g1⟩
  have G:=Lib.hid g1.drop.drop.drop
  obtain⟨F1,r1⟩:=g1.get 0 rfl
  obtain⟨a,c1,rfl,-,-,-⟩:=r1.shape
  rw [HE.out]
  clear g1 r1 K1 HSET
  go_wp2_with fail
  go_ret2
  exact⟨by rw [HF.out];rfl,by rw [HF.out,HD.out];exact G.out.alloc _⟩
 have hm':mayM m=true:=by simpa using hm
 have hl64:=(mayM_iff.1 hm').1
 have HE:Hid (manEnc m=(frBytes (manFr m),0)):=Lib.hid (by unfold manEnc;rw [if_pos hm'])
 have HL:Hid ((frBytes (manFr m)).length≤10000000):=Lib.hid (by rw [frBytes_length,show (manFr m).body=manBody m from rfl,manBody_length];omega)
 have HFR:=Lib.hid (freshD_fold m d)
 have HFO:=Lib.hid (freshD_ops m d)
 have hC:commitD m d=if (freshD m d).2≠0 then ((freshD m d).1,false,(freshD m d).2) else ((dSyncDir (freshD m d).1).1,true,(dSyncDir (freshD m d).1).2):=by unfold commitD;rw [if_neg hm]
 have HC:=Lib.hid hC
 have hent1:∀ args w',(callFunc 103 args).run Tryz.prog w'=.ok (.enter 103 args) w':=enters_of Tryz.func103 (by kernel_rfl) rfl
 have hent2:∀ args w',(callFunc 104 args).run Tryz.prog w'=.ok (.enter 104 args) w':=enters_of Tryz.func104 (by kernel_rfl) rfl
 have hent3:∀ args w',(callFunc 105 args).run Tryz.prog w'=.ok (.enter 105 args) w':=enters_of Tryz.func105 (by kernel_rfl) rfl
 have hent4:∀ args w',(callFunc 106 args).run Tryz.prog w'=.ok (.enter 106 args) w':=enters_of Tryz.func106 (by kernel_rfl) rfl
 have HENT:=Lib.hid (And.intro hent1 (And.intro hent2 (And.intro hent3 hent4)))
 have HI:Hid (∀ (k:Nat) (f:DiskD→DiskD×Int),[clearD nmFresh,fun d=>dAppend d nmFresh (frBytes (manFr m)),fun d=>dSync d nmFresh,fun d=>dRename d nmFresh nmHead][k]?=some f→∀ d',d'.ops≤99999990+k→(f d').1.ops≤99999990+(k+1)):=Lib.hid fun k f hf d' hd'=>by
  rcases k with _ | _ | _ | _ | k
  ·cases hf;have:=clearD_ops nmFresh d';omega
  ·cases hf;have:=dApp_ops d' nmFresh (frBytes (manFr m));simp only;omega
  ·cases hf;have:=dSync_ops d' nmFresh;simp only;omega
  ·cases hf;have:=dRen_ops d' nmFresh nmHead;simp only;omega
  ·simp at hf
 clear hm hm' hl64 hent1 hent2 hent3 hent4 hC
 unfold manAgg at K1 ⊢
 go_enter Tryz.func50,Tryz.ntmps50
 go_wp2_with fail
 refine K1.out.mono ?_
 rintro e w1 ⟨v,rfl,g1⟩
 rw [HE.out] at g1 ⊢
 clear K1
 generalize hbs:frBytes (manFr m)=bs at *
 obtain⟨F1,r1⟩:=g1.get 0 rfl
 obtain⟨a,c1,rfl,-,-,-⟩:=r1.shape
 clear r1
 have db:w1.cell? ⟨w.heap.size,0,none⟩=some (dptr bd):=cell_of (g1.block 2 rfl) rfl
 have g2:=g1.cells #[.slice a bs.length c1] 41
 have g3:=g2.cells #[.func (.func 103) #[] #[.pointer (some ⟨w.heap.size,0,none⟩)],.func (.func 104) #[] #[.pointer (some ⟨w.heap.size,0,none⟩),.pointer (some ⟨w1.heap.size,0,none⟩)],.func (.func 105) #[] #[.pointer (some ⟨w.heap.size,0,none⟩)],.func (.func 106) #[] #[.pointer (some ⟨w.heap.size,0,none⟩)]] 54
 simp only [World.size_alloc] at g3
 have KK:=all_fn (fun k d'=>d'.ops≤99999990+k) (fun d'=>Cells w1.heap.size #[.slice a bs.length c1] 41::RowA 5 1 (.slice a bs.length c1) bs.length (u8s bs)::Cells (w.heap.size+1) #[.int .i64 m.ver,.int .i64 m.next,.slice A m.segs.length c] 104::Cells w.heap.size #[dptr bd] 26::R.set i (DkA bd d'))
  (w1.heap.size+1) 54 [clearD nmFresh,fun d=>dAppend d nmFresh bs,fun d=>dSync d nmFresh,fun d=>dRename d nmFresh nmHead]
  [(103,#[.pointer (some ⟨w.heap.size,0,none⟩)]),(104,#[.pointer (some ⟨w.heap.size,0,none⟩),.pointer (some ⟨w1.heap.size,0,none⟩)]),(105,#[.pointer (some ⟨w.heap.size,0,none⟩)]),(106,#[.pointer (some ⟨w.heap.size,0,none⟩)])] rfl (by simp) d 4
  (w:=(w1.alloc (.cells #[.slice a bs.length c1] 41)).alloc (.cells #[.func (.func 103) #[] #[.pointer (some ⟨w.heap.size,0,none⟩)],.func (.func 104) #[] #[.pointer (some ⟨w.heap.size,0,none⟩),.pointer (some ⟨w1.heap.size,0,none⟩)],.func (.func 105) #[] #[.pointer (some ⟨w.heap.size,0,none⟩)],.func (.func 106) #[] #[.pointer (some ⟨w.heap.size,0,none⟩)]] 54))
  (by omega) HI.out
  (fun f hf=>by
   simp only [List.mem_cons,List.not_mem_nil,or_false] at hf
   rcases hf with rfl | rfl | rfl | rfl
   ·exact HENT.out.1
   ·exact HENT.out.2.1
   ·exact HENT.out.2.2.1
   ·exact HENT.out.2.2.2)
  (fun k f gi hf hg w' d' hI h'=>by
   rcases k with _ | _ | _ | _ | k
   ·cases hf;cases hg
    have:=commit1 h' (i+5) (HSET.out _) (by omega) 4 rfl
    simpa [List.set_set] using this
   ·cases hf;cases hg
    have:=commit2 h' (i+5) (HSET.out _) (by omega) 4 1 2 (by omega) rfl rfl rfl HL.out
    simpa [List.set_set] using this
   ·cases hf;cases hg
    have:=commit3 h' (i+5) (HSET.out _) (by omega) 4 rfl
    simpa [List.set_set] using this
   ·cases hf;cases hg
    have:=commit4 h' (i+5) (HSET.out _) (by omega) 4 rfl
    simpa [List.set_set] using this
   ·simp at hf) (by rw [HD.out];exact g3)
 rw [HFR.out] at KK
 have KH:=Lib.hid KK
 clear KK g1 g2 g3 HD HENT HI HL HE HFR
 by_cases hz:(freshD m d).2=0
 ·have HC2:Hid (commitD m d=((dSyncDir (freshD m d).1).1,true,(dSyncDir (freshD m d).1).2)):=Lib.hid (by rw [HC.out,if_neg (by simpa using hz)])
  have HZ:=Lib.hid hz
  clear hz HC
  go_wp2_with fail
  refine KH.out.mono ?_
  rintro e w2 ⟨rfl,g4⟩
  rw [HZ.out]
  have db2:w2.cell? ⟨w.heap.size,0,none⟩=some (dptr bd):=cell_of (g4.block 4 rfl) rfl
  have C5:=Lib.hid (o_dsyncdir g4 (i+5) (HSET.out _) (by have:=HFO.out;omega))
  clear g4 KH db
  go_wp2_with fail
  refine C5.out.mono ?_
  rintro e w3 ⟨rfl,g5⟩
  have G:=Lib.hid g5.drop.drop.drop.drop.drop
  clear g5 C5
  go_wp2_with fail
  go_ret2
  exact⟨by rw [HC2.out];rfl,by rw [HC2.out];have:=G.out;rwa [List.set_set] at this⟩
 ·have HC2:Hid (commitD m d=((freshD m d).1,false,(freshD m d).2)):=Lib.hid (by rw [HC.out,if_pos (by simpa using hz)])
  have q:((freshD m d).2 != 0)=true:=by rw [bne_iff_ne];exact hz
  have HZ:=Lib.hid (show ∃ x,(freshD m d).2=x from ⟨_,rfl⟩)
  clear hz HC
  go_wp2_with fail
  refine KH.out.mono ?_
  rintro e w2 ⟨rfl,g4⟩
  have G:=Lib.hid g4.drop.drop.drop.drop.drop
  clear g4 KH
  go_wp2_with fail
  go_ret2
  exact⟨by rw [HC2.out];rfl,by rw [HC2.out];exact G.out⟩
end
def lgC (bd:Nat) (l:LogD) (v:Value):Array Value:=#[dptr bd,.int .i64 l.size,.int .i64 l.m.ver,.int .i64 l.m.next,v,.bool l.loose]
def LgOk (l:LogD):Prop:=16≤l.size∧l.size≤1048576∧mayM l.m=true
def LgA (lb bd:Nat) (l:LogD):Asrt:=fun w F=>∃ v,Star [Cells lb (lgC bd l v) 112,RowA 3 1 v l.m.segs.length (segV l.m.segs)] w F
theorem LgR_framed (lb bd:Nat) (l:LogD) (v:Value):∀ A∈[Cells lb (lgC bd l v) 112,RowA 3 1 v l.m.segs.length (segV l.m.segs)],Framed A:=by
 intro A hA
 simp only [List.mem_cons,List.not_mem_nil,or_false] at hA
 rcases hA with rfl | rfl
 ·exact Cells.framed _ _ _
 ·exact RowA.framed _ _ _ _ _
theorem LgA.framed (lb bd:Nat) (l:LogD):Framed (LgA lb bd l):=
 ⟨fun ⟨v,h⟩ hk=>⟨v,(Framed.star (LgR_framed lb bd l v)).keep h hk⟩,fun ⟨v,h⟩=>(Framed.star (LgR_framed lb bd l v)).lt h⟩
section
variable {F0:List Nat} {w0 w:World} {R:List Asrt} {bd lb:Nat} {d:DiskD} {l:LogD}
theorem In.lgOpen (h:In F0 w0 w (LgA lb bd l::R)):∃ a c,In F0 w0 w (RowA 3 1 (.slice a l.m.segs.length c) l.m.segs.length (segV l.m.segs)::Cells lb (lgC bd l (.slice a l.m.segs.length c)) 112::R):=by
 obtain⟨v,h1⟩:=h.ex (G:=fun v=>Star [Cells lb (lgC bd l v) 112,RowA 3 1 v l.m.segs.length (segV l.m.segs)]) 0 rfl (fun v=>Framed.star (LgR_framed lb bd l v))
 have h2:=h1.split (A:=Cells lb (lgC bd l v) 112) (B:=RowA 3 1 v l.m.segs.length (segV l.m.segs)) 0 rfl (Cells.framed _ _ _) (RowA.framed _ _ _ _ _)
 obtain⟨F,hr⟩:=h2.get 0 rfl
 obtain⟨a,c,rfl,-,-,-⟩:=hr.shape
 exact⟨a,c,h2⟩
theorem In.lgClose {l':LogD} {v:Value} (h:In F0 w0 w (RowA 3 1 v l'.m.segs.length (segV l'.m.segs)::Cells lb (lgC bd l' v) 112::R)):In F0 w0 w (LgA lb bd l'::R):=
 h.fold (C:=LgA lb bd l') 0 rfl (LgA.framed _ _ _) (fun F hF=>⟨v,hF⟩)
theorem o_settle (h:In F0 w0 w (LgA lb bd l::DkA bd d::R)) (ho:d.ops≤100000000) :
  Calls Tryz.prog 73 #[dptr lb] w fun e w'=>e=.returned (.int .i64 (settleL (d,l)).2)∧In F0 w0 w' (LgA lb bd (settleL (d,l)).1.2::DkA bd (settleL (d,l)).1.1::R):=by
 obtain⟨a,c,h1⟩:=h.lgOpen
 have c5:w.cell? ⟨lb,5,none⟩=some (.bool l.loose):=cell_of (h1.block 1 rfl) rfl
 have c0:w.cell? ⟨lb,0,none⟩=some (dptr bd):=cell_of (h1.block 1 rfl) rfl
 have C:=Lib.hid (o_dsyncdir h1 2 rfl ho)
 cases hq:l.loose with
 | false=>
  have HE:Hid (settleL (d,l)=((d,l),0)):=Lib.hid (by unfold settleL;rw [hq];rfl)
  have H:=Lib.hid h
  rw [hq] at c5
  clear h h1 C hq
  go_enter Tryz.func73,Tryz.ntmps73
  go_wp2_with fail
  go_ret
  exact⟨by rw [HE.out];rfl,by rw [HE.out];exact H.out⟩
 | true=>
  have HE:Hid (settleL (d,l)=(((dSyncDir d).1,{ l with loose:=decide ((dSyncDir d).2≠0) }),(dSyncDir d).2)):=Lib.hid (by unfold settleL;rw [hq];rfl)
  rw [hq] at c5
  clear h h1 hq
  go_enter Tryz.func73,Tryz.ntmps73
  go_wp2_with fail
  refine C.out.mono ?_
  rintro e w1 ⟨rfl,g⟩
  have d5:w1.cell? ⟨lb,5,none⟩=some (.bool l.loose):=cell_of (g.block 1 rfl) rfl
  have f5:w1.frozen? ⟨lb,5,none⟩=false:=free_of (g.block 1 rfl)
  have g2:=g.put (b:=lb) 1 rfl 5 (.bool ((dSyncDir d).2 != 0))
  have g3:In F0 w0 (w1.setCell ⟨lb,5,none⟩ (.bool ((dSyncDir d).2 != 0))) (LgA lb bd { l with loose:=decide ((dSyncDir d).2≠0) }::DkA bd (dSyncDir d).1::R):=
   In.lgClose (l':={ l with loose:=decide ((dSyncDir d).2≠0) }) (v:=.slice a l.m.segs.length c) (by
    have e:((dSyncDir d).2 != 0)=decide ((dSyncDir d).2≠0):=by simp [bne,Bool.beq_eq_decide_eq]
    unfold lgC
    rw [← e]
    exact g2)
  have G:=Lib.hid g3
  have HX:Hid (∃ x,(dSyncDir d).2=x):=Lib.hid ⟨_,rfl⟩
  clear g g2 g3 C c0 c5
  go_wp2_with fail
  go_ret
  exact⟨by rw [HE.out];rfl,by rw [HE.out];exact G.out⟩
theorem o_bytes (h:In F0 w0 w (LgA lb bd l::DkA bd d::R)) (n:ByteArray) (hn:n.size≤maxLen) :
  Calls Tryz.prog 76 #[dptr lb,.string n] w fun e w'=>e=.returned (.int .i64 (bytesD d n))∧In F0 w0 w' (LgA lb bd l::DkA bd d::R):=by
 obtain⟨a,c,h1⟩:=h.lgOpen
 have c0:w.cell? ⟨lb,0,none⟩=some (dptr bd):=cell_of (h1.block 1 rfl) rfl
 have C:=Lib.hid (o_dread h 1 rfl n hn)
 clear h h1
 go_enter Tryz.func76,Tryz.ntmps76
 go_wp2_with fail
 refine C.out.mono ?_
 rintro e w1 ⟨v,rfl,g⟩
 obtain⟨F1,r1⟩:=g.get 0 rfl
 obtain⟨a1,c1,rfl,-,-,-⟩:=r1.shape
 have G:=Lib.hid g.drop
 have HX:Hid (((dRead d n).getD []).length=bytesD d n):=Lib.hid rfl
 rw [HX.out]
 clear g r1 C
 go_wp2_with fail
 go_ret
 exact⟨rfl,G.out⟩
theorem o_fits (h:In F0 w0 w (LgA lb bd l::R)) (x y:Nat) (hx:x≤1000000000) (hy:y≤1000000000) (hl:l.size≤1048576) :
  Calls Tryz.prog 75 #[dptr lb,.int .i64 x,.int .i64 y] w fun e w'=>e=.returned (.bool (fitsL l x y))∧w'=w:=by
 obtain⟨a,c,h1⟩:=h.lgOpen
 have c1:w.cell? ⟨lb,1,none⟩=some (.int .i64 l.size):=cell_of (h1.block 1 rfl) rfl
 clear h h1
 by_cases k:x=0
 ·have HE:Hid (fitsL l x y=true):=Lib.hid (by unfold fitsL;simp [k])
  subst k
  go_enter Tryz.func75,Tryz.ntmps75
  go_wp2_with fail
  go_ret
  exact⟨by rw [HE.out];rfl,rfl⟩
 ·have q0:decide ((x:Int)=0)=false:=by simp;omega
  have q1:((x:Int) == 0)=false:=by simp;omega
  have HE:Hid (fitsL l x y=decide ((x:Int)+y≤l.size)):=Lib.hid (by unfold fitsL;rw [decide_eq_decide];omega)
  clear k
  go_enter Tryz.func75,Tryz.ntmps75
  go_wp2_with fail
  go_ret
  exact⟨by rw [HE.out];rfl,rfl⟩
theorem o_last (h:In F0 w0 w (LgA lb bd l::R)) (hl:LgOk l) :
  Calls Tryz.prog 77 #[dptr lb] w fun e w'=>e=.returned (.string (lastS l))∧In F0 w0 w' (LgA lb bd l::R):=by
 obtain⟨a,c,h1⟩:=h.lgOpen
 have hm:=(mayM_iff.1 hl.2.2).1
 obtain⟨s,hs⟩:∃ s,l.m.segs[l.m.segs.length - 1]?=some s:=⟨l.m.segs[l.m.segs.length - 1]'(by omega),List.getElem?_eq_getElem _⟩
 have hsm:=mayM_seg hl.2.2 (List.mem_of_getElem? hs)
 have HL:Hid (segName s=lastS l):=Lib.hid (by
  unfold lastS
  rw [List.getLastD_eq_getLast?,List.getLast?_eq_getElem?,hs];rfl)
 obtain⟨F1,r1⟩:=h1.get 0 rfl
 obtain⟨g,rfl,cs⟩:=r1.at.2 (l.m.segs.length - 1) (.int .i64 s) (by simp [segV,hs])
 have HP:Hid (∀ w',In F0 w0 w' (RowA 3 1 (.slice (some ⟨g,0,none⟩) l.m.segs.length c) l.m.segs.length (segV l.m.segs)::Cells lb (lgC bd l (.slice (some ⟨g,0,none⟩) l.m.segs.length c)) 112::R) →
   (w'.cell? ⟨lb,4,none⟩=some (.slice (some ⟨g,0,none⟩) l.m.segs.length c)∧w'.cell? ⟨g,l.m.segs.length - 1,none⟩=some (.int .i64 s))∧In F0 w0 w' (LgA lb bd l::R)):=Lib.hid fun w' h'=>by
  obtain⟨F2,r2⟩:=h'.get 0 rfl
  obtain⟨g2,e2,cs2⟩:=r2.at.2 (l.m.segs.length - 1) (.int .i64 s) (by simp [segV,hs])
  cases e2
  exact⟨⟨cell_of (h'.block 1 rfl) rfl,cs2⟩,h'.lgClose⟩
 have c4:w.cell? ⟨lb,4,none⟩=some (.slice (some ⟨g,0,none⟩) l.m.segs.length c):=cell_of (h1.block 1 rfl) rfl
 have C:=Lib.hid (fun n=>o_name (h1.drewN n) s (by omega))
 have HW:=Lib.hid (HP.out w h1).1
 have hn1:1≤l.m.segs.length:=hm.2.2.1
 have hn2:l.m.segs.length≤64:=hm.2.2.2.1
 clear h h1 hl hm hs hsm r1
 generalize l.m.segs.length=n at *
 obtain⟨k,hk⟩:∃ k,n - 1=k:=⟨n - 1,rfl⟩
 rw [hk] at cs HP HW
 have hw1:IntKind.i64.wrap ((n:Int) - 1)=(k:Int):=by rw [show (n:Int) - 1=(k:Int) by omega];exact IntWalk.i64_in _ (by omega)
 have hk0:(0:Int)≤(k:Int):=by omega
 have hk1:(k:Int) < (n:Int):=by omega
 have hk2:k < n:=by omega
 clear hk hn1 hn2
 go_enter Tryz.func77,Tryz.ntmps77
 go_wp2_with fail
 go_region_held3 (fun w'=>w'.cell? ⟨lb,4,none⟩=some (.slice (some ⟨g,0,none⟩) n c)∧w'.cell? ⟨g,k,none⟩=some (.int .i64 s)) (first | exact HW.out | exact hc1) (first | (go_at_call 48;refine (C.out 1).mono ?_;rintro e w1 ⟨rfl,g1⟩;obtain⟨hc1,hfin⟩:=HP.out w1 g1;have G:=Lib.hid hfin;clear g1 hfin))
 go_wp2_with fail
 go_ret
 exact⟨by rw [HL.out];rfl,G.out⟩
end
section
variable {F0:List Nat} {w0 w:World} {R:List Asrt} {bd lb:Nat} {d:DiskD} {l:LogD}
abbrev SegR (A:Option Addr) (c:Nat) (s:List Nat):Asrt:=RowA 3 1 (.slice A s.length c) s.length (segV s)
def AdoptPost (lb bd:Nat) (m:ManD) (A:Option Addr) (c:Nat) (s:DL) (F0:List Nat) (w0:World) (R:List Asrt) (e:Ending) (w':World):Prop:=
 e=.returned (.tuple #[.bool (adoptL m s).2.1,.int .i64 (adoptL m s).2.2])∧In F0 w0 w' (LgA lb bd (adoptL m s).1.2::DkA bd (adoptL m s).1.1::R) ∧
  ((adoptL m s).2.1=false→In F0 w0 w' (LgA lb bd (adoptL m s).1.2::DkA bd (adoptL m s).1.1::SegR A c m.segs::R))
theorem o_adopt (m:ManD) {A:Option Addr} {c:Nat} (h:In F0 w0 w (LgA lb bd l::DkA bd d::SegR A c m.segs::R)) (ho:d.ops≤99999990) (hn:m.segs.length≤1000000000) :
  Calls Tryz.prog 131 #[dptr lb,manAgg m A c] w (AdoptPost lb bd m A c (d,l) F0 w0 R):=by
 obtain⟨a,ca,h1⟩:=h.lgOpen
 have h2:=h1.cells #[.int .i64 m.ver,.int .i64 m.next,.slice A m.segs.length c] 104
 have HW:Hid (∀ w',In F0 w0 w' (Cells w.heap.size #[.int .i64 m.ver,.int .i64 m.next,.slice A m.segs.length c] 104::RowA 3 1 (.slice a l.m.segs.length ca) l.m.segs.length (segV l.m.segs)::Cells lb (lgC bd l (.slice a l.m.segs.length ca)) 112::DkA bd (commitD m d).1::SegR A c m.segs::R) →
   (w'.cell? ⟨lb,0,none⟩=some (dptr bd)∧w'.cell? ⟨w.heap.size,0,none⟩=some (.int .i64 m.ver)∧w'.cell? ⟨w.heap.size,1,none⟩=some (.int .i64 m.next)∧w'.cell? ⟨w.heap.size,2,none⟩=some (.slice A m.segs.length c)) ∧
   (w'.frozen? ⟨lb,2,none⟩=false∧w'.frozen? ⟨lb,3,none⟩=false∧w'.frozen? ⟨lb,4,none⟩=false∧w'.frozen? ⟨lb,5,none⟩=false ∧
    ∃ x2 x3 x4 x5,w'.cell? ⟨lb,2,none⟩=some x2∧w'.cell? ⟨lb,3,none⟩=some x3∧w'.cell? ⟨lb,4,none⟩=some x4∧w'.cell? ⟨lb,5,none⟩=some x5)):=Lib.hid fun w' h'=>
  ⟨⟨cell_of (h'.block 2 rfl) rfl,cell_of (h'.block 0 rfl) rfl,cell_of (h'.block 0 rfl) rfl,cell_of (h'.block 0 rfl) rfl⟩,free_of (h'.block 2 rfl),free_of (h'.block 2 rfl),free_of (h'.block 2 rfl),free_of (h'.block 2 rfl),_,_,_,_,cell_of (h'.block 2 rfl) rfl,cell_of (h'.block 2 rfl) rfl,cell_of (h'.block 2 rfl) rfl,cell_of (h'.block 2 rfl) rfl⟩
 have HS0:Hid ((w.alloc (.cells #[.int .i64 m.ver,.int .i64 m.next,.slice A m.segs.length c] 104)).cell? ⟨lb,0,none⟩=some (dptr bd)∧(w.alloc (.cells #[.int .i64 m.ver,.int .i64 m.next,.slice A m.segs.length c] 104)).cell? ⟨w.heap.size,0,none⟩=some (.int .i64 m.ver)∧(w.alloc (.cells #[.int .i64 m.ver,.int .i64 m.next,.slice A m.segs.length c] 104)).cell? ⟨w.heap.size,1,none⟩=some (.int .i64 m.next)∧(w.alloc (.cells #[.int .i64 m.ver,.int .i64 m.next,.slice A m.segs.length c] 104)).cell? ⟨w.heap.size,2,none⟩=some (.slice A m.segs.length c)):=Lib.hid
  ⟨cell_of (h2.block 2 rfl) rfl,cell_of (h2.block 0 rfl) rfl,cell_of (h2.block 0 rfl) rfl,cell_of (h2.block 0 rfl) rfl⟩
 have C:=Lib.hid (fun n=>o_commit (h2.drewN n) 3 rfl ho m (A:=A) (c:=c) (fun w' h'=>by obtain⟨F',r'⟩:=h'.get 4 rfl;exact r'.all) hn)
 have HQ:Hid (adoptL m (d,l)=(((commitD m d).1,if (commitD m d).2.1 then { l with m:=m,loose:=decide ((commitD m d).2.2≠0) } else l),(commitD m d).2.1,(commitD m d).2.2)):=Lib.hid rfl
 have HT:Hid (∀ w',In F0 w0 w' (Cells w.heap.size #[.int .i64 m.ver,.int .i64 m.next,.slice A m.segs.length c] 104::RowA 3 1 (.slice a l.m.segs.length ca) l.m.segs.length (segV l.m.segs)::Cells lb (lgC bd l (.slice a l.m.segs.length ca)) 112::DkA bd (commitD m d).1::SegR A c m.segs::R) →
   In F0 w0 ((((w'.setCell ⟨lb,2,none⟩ (.int .i64 m.ver)).setCell ⟨lb,3,none⟩ (.int .i64 m.next)).setCell ⟨lb,4,none⟩ (.slice A m.segs.length c)).setCell ⟨lb,5,none⟩ (.bool ((commitD m d).2.2 != 0)))
    (LgA lb bd { l with m:=m,loose:=decide ((commitD m d).2.2≠0) }::DkA bd (commitD m d).1::R)):=Lib.hid fun w' h'=>by
  have e:((commitD m d).2.2 != 0)=decide ((commitD m d).2.2≠0):=by simp [bne,Bool.beq_eq_decide_eq]
  have g:=(((h'.put (b:=lb) 2 rfl 2 (.int .i64 m.ver)).put (b:=lb) 2 rfl 3 (.int .i64 m.next)).put (b:=lb) 2 rfl 4 (.slice A m.segs.length c)).put (b:=lb) 2 rfl 5 (.bool ((commitD m d).2.2 != 0))
  have g2:=g.sel2 (R1:=[_,_,_,_,_]) [4,2,3] (by decide) rfl
  refine In.lgClose (l':={ l with m:=m,loose:=decide ((commitD m d).2.2≠0) }) (v:=.slice A m.segs.length c) ?_
  unfold lgC
  rw [← e]
  exact g2
 have HN:Hid (∀ w',In F0 w0 w' (Cells w.heap.size #[.int .i64 m.ver,.int .i64 m.next,.slice A m.segs.length c] 104::RowA 3 1 (.slice a l.m.segs.length ca) l.m.segs.length (segV l.m.segs)::Cells lb (lgC bd l (.slice a l.m.segs.length ca)) 112::DkA bd (commitD m d).1::SegR A c m.segs::R) →
   In F0 w0 w' (LgA lb bd l::DkA bd (commitD m d).1::SegR A c m.segs::R)):=Lib.hid fun w' h'=>h'.drop.lgClose
 unfold manAgg at C ⊢
 clear h h1 h2 hn ho
 cases hq:(commitD m d).2.1 with
 | true=>
  have HF:Hid (∀ w',In F0 w0 w' (LgA lb bd { l with m:=m,loose:=decide ((commitD m d).2.2≠0) }::DkA bd (commitD m d).1::R)→AdoptPost lb bd m A c (d,l) F0 w0 R (.returned (.tuple #[.bool true,.int .i64 (commitD m d).2.2])) w'):=Lib.hid fun w' h'=>by
   unfold AdoptPost
   rw [HQ.out,hq]
   exact⟨rfl,h',fun e=>by cases e⟩
  rw [hq] at C
  clear HQ HN hq
  go_enter Tryz.func131,Tryz.ntmps131
  go_wp2_with fail
  go_region_held3 (fun w'=>w'.cell? ⟨lb,0,none⟩=some (dptr bd)∧w'.cell? ⟨w.heap.size,0,none⟩=some (.int .i64 m.ver)∧w'.cell? ⟨w.heap.size,1,none⟩=some (.int .i64 m.next)∧w'.cell? ⟨w.heap.size,2,none⟩=some (.slice A m.segs.length c)) (first | exact HS0.out | exact hc1) (first | (go_at_call 50;refine (C.out 1).mono ?_;rintro e w1 ⟨rfl,g1⟩;obtain⟨hc1,f2,f3,f4,f5,x2,x3,x4,x5,d2,d3,d4,d5⟩:=HW.out w1 g1;have G:=Lib.hid (HF.out _ (HT.out w1 g1));clear g1))
  go_wp2_with fail
  go_ret2
  exact G.out
 | false=>
  have HF:Hid (∀ w',In F0 w0 w' (LgA lb bd l::DkA bd (commitD m d).1::SegR A c m.segs::R)→AdoptPost lb bd m A c (d,l) F0 w0 R (.returned (.tuple #[.bool false,.int .i64 (commitD m d).2.2])) w'):=Lib.hid fun w' h'=>by
   unfold AdoptPost
   rw [HQ.out,hq]
   exact⟨rfl,h'.sel2 (R1:=[_,_,_]) [0,1] (by decide) rfl,fun _=>h'⟩
  rw [hq] at C
  clear HQ HT hq
  go_enter Tryz.func131,Tryz.ntmps131
  go_wp2_with fail
  go_region_held3 (fun w'=>w'.cell? ⟨lb,0,none⟩=some (dptr bd)∧w'.cell? ⟨w.heap.size,0,none⟩=some (.int .i64 m.ver)∧w'.cell? ⟨w.heap.size,1,none⟩=some (.int .i64 m.next)∧w'.cell? ⟨w.heap.size,2,none⟩=some (.slice A m.segs.length c)) (first | exact HS0.out | exact hc1) (first | (go_at_call 50;refine (C.out 1).mono ?_;rintro e w1 ⟨rfl,g1⟩;obtain⟨hc1,-⟩:=HW.out w1 g1;have G:=Lib.hid (HF.out _ (HN.out w1 g1));clear g1))
  go_wp2_with fail
  go_ret2
  exact G.out
end
section
variable {F0:List Nat} {w0 w:World} {R:List Asrt}
theorem grow_call (h:In F0 w0 w R) (n:Nat) (h1:1≤n) (hn:n≤1000000000) :
  Calls Tryz.prog 157 #[.slice none 0 0,.int .i64 n] w fun e w'=>∃ v,e=.returned v∧In F0 w0 w' (RowA 3 1 v 0 []::R):=by
 obtain⟨i0,z,hi,hz,hzs,hs,hb⟩:∃ i0 z,Tryz.prog.info? 3=some i0∧i0.zero=some z∧z.cells.size=1∧i0.size=1∧i0.bytes=8:=by
  have hinf:=infoInt
  cases e:Tryz.prog.info? 3 with
  | none=>rw [e] at hinf;cases hinf
  | some i0=>
   rw [e] at hinf
   simp only [Option.map_some,Option.some.injEq,Prod.mk.injEq] at hinf
   cases hz:i0.zero with
   | none=>rw [hz] at hinf;simp at hinf
   | some z=>
    rw [hz] at hinf
    simp only [Option.map_some,Option.some.injEq] at hinf
    exact⟨i0,z,rfl,hz,hinf.1,hinf.2.1,hinf.2.2⟩
 have hcon:=Any8.slices_Grow_grow Tryz.growI i0 z hi hz (by omega) none 0 0 n [] w (Nat.le_refl _) (by omega) (by rw [hb];omega) (by omega) (by simp) (fun _=>rfl) (fun a e=>by cases e)
 refine (show Calls Tryz.prog 157 #[.slice none 0 0,.int .i64 n] w _ from hcon).mono fun e w' ⟨he,hw⟩=>?_
 have hge:=grownCap_ge w (0+n) 0 3
 have hle:=grownCap_le_maxLen w (0+n) 0 3 (by unfold maxLen;omega)
 have hsz:(([]:List Value).toArray++Builtin.zeroCells z.cells (0+n - 0)++Builtin.zeroCells z.cells (grownCap w (0+n) 0 3 - (0+n))).size=grownCap w (0+n) 0 3:=by
  simp only [Array.size_append,List.size_toArray,List.length_nil,size_zeroCells,hzs]
  omega
 have g:=(h.drewN 1).cells (([]:List Value).toArray++Builtin.zeroCells z.cells (0+n - 0)++Builtin.zeroCells z.cells (grownCap w (0+n) 0 3 - (0+n))) 3
 refine⟨_,he,?_⟩
 rw [hw]
 refine g.imp (A':=RowA 3 1 (.slice (some ⟨w.heap.size,0,none⟩) 0 (grownCap w (0+n) 0 3)) 0 []) 0 rfl (RowA.framed _ _ _ _ _) fun F ⟨hF,hbk⟩=>?_
 exact⟨hF,rfl,Or.inr ⟨_,_,_,rfl,Nat.zero_le _,hbk,Nat.zero_le _,hle,by rw [hsz,Nat.mul_one],by simp⟩⟩
abbrev PartI:=Option Addr×Nat×List Nat
def partV (p:PartI):Value:=.slice p.1 p.2.2.length p.2.1
def partsL (ps:List PartI):List Nat:=(ps.map (·.2.2)).flatten
theorem partsL_take (ps:List PartI) {k:Nat} {p:PartI} (h:ps[k]?=some p):partsL (ps.take (k+1))=partsL (ps.take k)++p.2.2:=by
 unfold partsL;rw [List.take_add_one,h];simp
theorem partsL_le (ps:List PartI) (k:Nat):(partsL (ps.take k)).length≤(partsL ps).length:=by
 have e:partsL ps=partsL (ps.take k)++partsL (ps.drop k):=by
  unfold partsL;conv=>lhs;rw [← List.take_append_drop k ps]
  rw [List.map_append,List.flatten_append]
 rw [e,List.length_append];omega
def SumRel (ps:List PartI) (q i:Value) (wr:World) (w:World):Prop:=∃ k:Nat,k≤ps.length∧i=.int .i64 k∧q=.int .i64 (partsL (ps.take k)).length∧wr=w
def CatRel (ps:List PartI) (pb:Nat) (F0:List Nat) (w0:World) (R:List Asrt) (v i:Value) (wr:World):Prop:=
 ∃ k:Nat,k≤ps.length∧i=.int .i64 k∧In F0 w0 wr (RowA 3 1 v (partsL (ps.take k)).length (segV (partsL (ps.take k)))::Cells pb (ps.map partV).toArray 102::R)
theorem o_concat {ps:List PartI} {pb c:Nat} (h:In F0 w0 w (Cells pb (ps.map partV).toArray 102::R)) (hps:ps.length≤1000) (h1:1≤(partsL ps).length) (hn:(partsL ps).length≤1000000000)
  (hs:∀ p∈ps,∀ w',In F0 w0 w' R→Src w' p.1 p.2.2.length 1 (segV p.2.2)) :
  Calls Tryz.prog 126 #[.slice (some ⟨pb,0,none⟩) ps.length c] w fun e w'=>∃ v,e=.returned v∧In F0 w0 w' (RowA 3 1 v (partsL ps).length (segV (partsL ps))::R):=by
 have HC:Hid (∀ w',In F0 w0 w' (Cells pb (ps.map partV).toArray 102::R)→∀ k p,ps[k]?=some p→w'.cell? ⟨pb,k,none⟩=some (partV p)):=Lib.hid fun w' h' k p hp=>cell_of (h'.block 0 rfl) (by simp [hp])
 have H:=Lib.hid h
 have HS0:Hid (SumRel ps (.int .i64 0) (.int .i64 0) w w):=Lib.hid ⟨0,Nat.zero_le _,rfl,by simp [partsL],rfl⟩
 have G:=Lib.hid (grow_call h _ h1 hn)
 have HS:=Lib.hid hs
 have HN:=Lib.hid hn
 clear h hs h1 hn
 go_enter Tryz.func126,Tryz.ntmps126
 go_wp2_with fail
 go_loopw [3,11] (fun q i wr=>SumRel ps q i wr w) (fun _ i _=>ps.length - (intOf i).toNat)
 case atStart=>exact HS0.out
 case round=>
  obtain⟨k,hk,rfl,rfl,rfl⟩:=hrel
  by_cases hlt:k < ps.length
  ·obtain⟨p,hp⟩:∃ p,ps[k]?=some p:=⟨ps[k],List.getElem?_eq_getElem hlt⟩
   have c0:=HC.out wr H.out k p hp
   have HT:=Lib.hid (partsL_take ps hp)
   have HL:=Lib.hid (partsL_le ps (k+1))
   have hlt':(k:Int) < (ps.length:Int):=by omega
   have hb:(partsL (ps.take k)).length+p.2.2.length≤1000000000:=by
    have h1:=HL.out
    rw [HT.out,List.length_append] at h1
    have:=HN.out;omega
   have hr:SumRel ps (.int .i64 (((partsL (ps.take k)).length:Int)+(p.2.2.length:Int))) (.int .i64 ((k:Int)+1)) wr wr:=⟨k+1,by omega,by go_num,by rw [HT.out,List.length_append];go_num,rfl⟩
   have HR:=Lib.hid hr
   unfold partV at c0
   clear hp hr HL HT G HS0 hlt
   generalize (partsL (ps.take k)).length=x at *
   generalize p.2.2.length=y at *
   have hneg:decide ((x:Int)+(y:Int) < 0)=false:=by simp;omega
   go_wp2_with fail
   go_roundw
   case rel=>exact HR.out
   case measure=>simp [intOf];omega
  ·have hge:(ps.length:Int)≤(k:Int):=by omega
   have hkl:ps.take k=ps:=List.take_of_length_le (by omega)
   rw [hkl]
   clear hlt hkl
   go_wp2_with fail
   refine G.out.mono ?_
   rintro e w1 ⟨v,rfl,g1⟩
   have HR:Hid (CatRel ps pb F0 w0 R v (.int .i64 0) w1):=Lib.hid ⟨0,Nat.zero_le _,rfl,by simpa [partsL,segV] using g1⟩
   clear g1 G HS0
   go_wp2_with fail
   go_loopw [6,27] (CatRel ps pb F0 w0 R) (fun _ i _=>ps.length - (intOf i).toNat)
   case atStart=>exact HR.out
   case round=>
    obtain⟨j,hj,rfl,ho⟩:=hrel
    clear HR
    by_cases hlt:j < ps.length
    ·obtain⟨p,hp⟩:∃ p,ps[j]?=some p:=⟨ps[j],List.getElem?_eq_getElem hlt⟩
     have c0:=HC.out wr ho.drop j p hp
     have HT:=Lib.hid (partsL_take ps hp)
     have HL:=Lib.hid (partsL_le ps (j+1))
     have hlt':(j:Int) < (ps.length:Int):=by omega
     have SS:=Lib.hid (HS.out p (List.mem_of_getElem? hp) wr ho.drop.drop)
     have HO:=Lib.hid ho
     have HB:Hid ((partsL (ps.take j)).length+p.2.2.length≤1000000000):=Lib.hid (by
      have h1:=HL.out
      rw [HT.out,List.length_append] at h1
      have:=HN.out;omega)
     have HR:Hid (∀ v' w',In F0 w0 w' (RowA 3 1 v' ((partsL (ps.take j)).length+p.2.2.length) (segV (partsL (ps.take j))++segV p.2.2)::Cells pb (ps.map partV).toArray 102::R)→CatRel ps pb F0 w0 R v' (.int .i64 (j+1)) w'):=Lib.hid fun v' w' h'=>
      ⟨j+1,by omega,by go_num,by rw [HT.out,List.length_append,show segV (partsL (ps.take j)++p.2.2)=segV (partsL (ps.take j))++segV p.2.2 from List.map_append ..];exact h'⟩
     unfold partV at c0
     clear hp ho hlt HL
     go_wp2_with (at_builtin;refine app_list rfl HO.out 0 rfl (.tmp 31) (.tmp 32) 102 (by rfl) Tryz.underlying102 infoInt (by decide) (by decide) (by rfl) (by rfl) SS.out (segV_one _) HB.out ?_)
     intro v' w2 g2 hg
     have HX:=Lib.hid (HR.out v' w2 g2)
     clear g2 hg HR HB HO SS
     go_wp2_with fail
     go_roundw
     case rel=>exact HX.out
     case measure=>simp [intOf];omega
    ·have hge:(ps.length:Int)≤(j:Int):=by omega
     have hkl:ps.take j=ps:=List.take_of_length_le (by omega)
     rw [hkl] at ho
     have HO:=Lib.hid (ho.sel2 (R1:=[_,_]) [0] (by decide) rfl)
     clear ho hlt hkl
     go_wp2_with fail
     go_ret
     exact⟨_,rfl,HO.out⟩
end
end Go.Proofs.YtpmmiljakbojaaaGreat
