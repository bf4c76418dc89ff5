/- Parts of the proofs that a compaction keeps what lives, and done again is as once. -/
import Derived.Test.YtogclkhpbjfadaaGreatCK10
import Derived.Test.YtogclkhpbjfadaaGreatCK16
import Derived.Test.YtogclkhpbjfadaaGreatCK9
import Derived.BigQuiet
import Derived.Test.YtogclkhpbjfadaaGreatShelfGr
namespace Go.Proofs.YtogclkhpbjfadaaGreat
open Go.RowKit
set_option linter.unusedVariables false
set_option maxHeartbeats 64000000
set_option maxRecDepth 100000
theorem kQ (n:ByteArray) (d:ae):(bF n d).1.ops≤d.ops+1:=by
 unfold bF;split
 ·have:=(Ex d n n [] 0).2.2.2.2.1;omega
 ·simp
theorem yo {g:List (ae→ae×Int)} {d:ae} (hg:∀ f∈g,∀ d,(f d).1.ops≤d.ops+1):(bM g d).1.ops≤d.ops+g.length:=by
 suffices h:∀ (g:List (ae→ae×Int)) (r:ae×Int),(∀ f∈g,∀ d,(f d).1.ops≤d.ops+1)→(g.foldl bR r).1.ops≤r.1.ops+g.length from h g (d,0) hg
 intro g
 induction g with
 | nil=>intro r _;simp
 | cons f g ih=>
  intro r hg
  have h1:=ih (bR r f) (fun f' hf'=>hg f' (List.mem_cons_of_mem _ hf'))
  have h2:=hg f (by simp) r.1
  have h3:(bR r f).1.ops≤r.1.ops+1:=by unfold bR;split <;> omega
  rw [List.foldl_cons,List.length_cons];omega
theorem df (s:Nat):(ai s).size≤maxLen:=by
 unfold ai maxLen;split
 ·exact Nat.zero_le _
 ·show 7≤_;omega
theorem La (d:ae) (n:ByteArray):(gY d n).isSome=(bQ d.now n).isSome:=by simp [gY]
section
variable {F0:List Nat} {w0 w:World} {R:List az} {bd:Nat} {d:ae}
theorem ME (h:In F0 w0 w R) (i:Nat) (hA:R[i]?=some (bJ bd d)) (n:ByteArray) (hn:n.size≤maxLen) :
  Calls Tryz.prog 59 #[aD bd,.string n] w fun e w'=>e=.returned (.bool (bQ d.now n).isSome)∧In F0 w0 w' R:=by
 have C:=Lib.hid (wR h i hA n hn)
 have HD:=Lib.hid (La d n)
 have HQ:Hid (∃ q,(bQ d.now n).isSome=q):=Lib.hid ⟨_,rfl⟩
 clear h hA
 go_enter Tryz.func59,Tryz.ntmps59
 go_wp2_with fail
 refine C.out.mono ?_
 rintro e w1 ⟨v,rfl,g⟩
 have G:=Lib.hid g.drop
 clear g C
 rw [HD.out]
 obtain⟨q,hq⟩:=HQ.out
 rw [hq]
 have HB:=Lib.hid hq
 clear hq HQ HD
 go_wp2_with fail
 go_ret
 exact⟨by rw [HB.out];rfl,G.out⟩
theorem zQ (h:In F0 w0 w R) (i:Nat) (hA:R[i]?=some (bJ bd d)) (ho:d.ops≤100000000) (n:ByteArray) (hn:n.size≤maxLen) :
  Calls Tryz.prog 144 #[aD bd,.string n] w fun e w'=>e=.returned (.int .i64 (bF n d).2)∧In F0 w0 w' (R.set i (bJ bd (bF n d).1)):=by
 have C:=Lib.hid (ME h i hA n hn)
 have C2:=Lib.hid (fun w' (h':In F0 w0 w' R)=>yh h' i hA ho n hn)
 cases hq:(bQ d.now n).isSome with
 | false=>
  have HE:Hid (bF n d=(d,0)):=Lib.hid (by unfold bF;rw [hq];rfl)
  have HS:=Lib.hid (pV hA)
  rw [hq] at C
  clear h hA hq
  go_enter Tryz.func144,Tryz.ntmps144
  go_wp2_with fail
  refine C.out.mono ?_
  rintro e w1 ⟨rfl,g⟩
  have G:=Lib.hid g
  clear g C C2
  go_wp2_with fail
  go_ret
  exact⟨by rw [HE.out];rfl,by rw [HE.out,HS.out];exact G.out⟩
 | true=>
  have HE:Hid (bF n d=cZ d n):=Lib.hid (by unfold bF;rw [hq];rfl)
  rw [hq] at C
  clear h hA hq
  go_enter Tryz.func144,Tryz.ntmps144
  go_wp2_with fail
  refine C.out.mono ?_
  rintro e w1 ⟨rfl,g⟩
  have K:=Lib.hid (C2.out w1 g)
  clear g C C2
  go_wp2_with fail
  refine K.out.mono ?_
  rintro e w2 ⟨rfl,g⟩
  have G:=Lib.hid g
  clear g K
  go_wp2_with fail
  go_ret
  exact⟨by rw [HE.out];rfl,by rw [HE.out];exact G.out⟩
/-! The closures of begin. -/
theorem Yi (h:In F0 w0 w R) (i:Nat) (hA:R[i]?=some (bJ bd d)) (ho:d.ops≤100000000) (n:ByteArray) (hn:n.size≤maxLen) {db nb:Nat} (j k:Nat) (hj:R[j]?=some (Cells db #[aD bd] 26)) (hk:R[k]?=some (Cells nb #[.string n] 9)) :
  Calls Tryz.prog 143 #[.pointer (some ⟨db,0,none⟩),.pointer (some ⟨nb,0,none⟩)] w fun e w'=>e=.returned (.int .i64 (bF n d).2)∧In F0 w0 w' (R.set i (bJ bd (bF n d).1)):=by
 have c0:w.cell? ⟨db,0,none⟩=some (aD bd):=cell_of (h.block j hj) rfl
 have c1:w.cell? ⟨nb,0,none⟩=some (.string n):=cell_of (h.block k hk) rfl
 have C:=Lib.hid (zQ h i hA ho n hn)
 clear h hA hj hk
 go_enter Tryz.func143,Tryz.ntmps143
 go_wp2_with fail
 refine C.out.mono ?_
 rintro e w1 ⟨rfl,g⟩
 have G:=Lib.hid g
 clear g C
 go_wp2_with fail
 go_ret
 exact⟨rfl,G.out⟩
theorem Yj (h:In F0 w0 w R) (i:Nat) (hA:R[i]?=some (bJ bd d)) (ho:d.ops≤100000000) (n:ByteArray) (hn:n.size≤maxLen) {db nb:Nat} (j k:Nat) (hj:R[j]?=some (Cells db #[aD bd] 26)) (hk:R[k]?=some (Cells nb #[.string n] 9)) :
  Calls Tryz.prog 145 #[.pointer (some ⟨db,0,none⟩),.pointer (some ⟨nb,0,none⟩)] w fun e w'=>e=.returned (.int .i64 (aH d n []).2)∧In F0 w0 w' (R.set i (bJ bd (aH d n []).1)):=by
 have c0:w.cell? ⟨db,0,none⟩=some (aD bd):=cell_of (h.block j hj) rfl
 have c1:w.cell? ⟨nb,0,none⟩=some (.string n):=cell_of (h.block k hk) rfl
 have C:=Lib.hid (Cr h i hA ho n hn)
 clear h hA hj hk
 go_enter Tryz.func145,Tryz.ntmps145
 go_wp2_with fail
 refine C.out.mono ?_
 rintro e w1 ⟨rfl,g⟩
 have G:=Lib.hid g
 clear g C
 go_wp2_with fail
 go_ret
 exact⟨rfl,G.out⟩
theorem qH (d:ae) (n:ByteArray) (b:List UInt8):(aH d n b).1.ops≤d.ops+1:=by have:=(Ex d n n b 0).1;omega
theorem fZ (d:ae) (n:ByteArray):(aW d n).1.ops≤d.ops+1:=by have:=(Ex d n n [] 0).2.1;omega
theorem IJ (d:ae) (n m:ByteArray):(bZ d n m).1.ops≤d.ops+1:=by have:=(Ex d n m [] 0).2.2.2.1;omega
theorem wZ (d:ae):(bE d).1.ops≤d.ops+1:=by have:=(Ex d ByteArray.empty ByteArray.empty [] 0).2.2.2.2.2;omega
theorem rE (s:Nat) (d:ae):(dK s d).1.ops≤d.ops+2:=by
 have h1:=kQ (ai s) d
 have h2:=qH (bF (ai s) d).1 (ai s) []
 unfold dK bR;split
 ·show (aH (bF (ai s) d).1 (ai s) []).1.ops≤_;omega
 ·omega
theorem MF (h:In F0 w0 w R) (i:Nat) (hA:R[i]?=some (bJ bd d)) (ho:d.ops≤99999990) (s:Nat) (hs:s < 4611686018427387904) :
  Calls Tryz.prog 62 #[aD bd,.int .i64 s] w fun e w'=>e=.returned (.int .i64 (dK s d).2)∧In F0 w0 w' (R.set i (bJ bd (dK s d).1)):=by
 have hi:=(List.getElem?_eq_some_iff.1 hA).1
 have h1:=h.cells #[aD bd] 26
 have C1:=Lib.hid (nU h1 s hs)
 have Cw:=Lib.hid (fun x:az=>(show (R.set i x)[i]?=some x by rw [List.getElem?_set_self hi]))
 have HD:=Lib.hid (show R.set i (bJ bd d)=R from pV hA)
 have hnm:=df s
 have HFD:Hid (bM [bF (ai s),fun d=>aH d (ai s) []] d=dK s d):=Lib.hid rfl
 have lV:∀ args w',(callFunc 143 args).run Tryz.prog w'=.ok (.enter 143 args) w':=enters_of Tryz.func143 (by kernel_rfl) rfl
 have lW:∀ args w',(callFunc 145 args).run Tryz.prog w'=.ok (.enter 145 args) w':=enters_of Tryz.func145 (by kernel_rfl) rfl
 have xN:=Lib.hid (And.intro lV lW)
 clear h h1 lV lW
 generalize ai s=n at *
 go_enter Tryz.func62,Tryz.ntmps62
 go_wp2_with fail
 refine C1.out.mono ?_
 rintro e w1 ⟨rfl,g1⟩
 have g2:=g1.cells #[.string n] 9
 have g3:=g2.cells #[.func (.func 143) #[] #[.pointer (some ⟨w.heap.size,0,none⟩),.pointer (some ⟨w1.heap.size,0,none⟩)],.func (.func 145) #[] #[.pointer (some ⟨w.heap.size,0,none⟩),.pointer (some ⟨w1.heap.size,0,none⟩)]] 48
 simp only [World.size_alloc] at g3
 have K:=Hf (fun d'=>Cells (w1.heap.size+1) #[.func (.func 143) #[] #[.pointer (some ⟨w.heap.size,0,none⟩),.pointer (some ⟨w1.heap.size,0,none⟩)],.func (.func 145) #[] #[.pointer (some ⟨w.heap.size,0,none⟩),.pointer (some ⟨w1.heap.size,0,none⟩)]] 48::Cells w1.heap.size #[.string n] 9::Cells w.heap.size #[aD bd] 26::R.set i (bJ bd d'))
  [bF n,fun d=>aH d n []] [(143,#[.pointer (some ⟨w.heap.size,0,none⟩),.pointer (some ⟨w1.heap.size,0,none⟩)]),(145,#[.pointer (some ⟨w.heap.size,0,none⟩),.pointer (some ⟨w1.heap.size,0,none⟩)])] rfl (by simp) d (w1.heap.size+1) 2
  (w:=(w1.alloc (.cells #[.string n] 9)).alloc (.cells #[.func (.func 143) #[] #[.pointer (some ⟨w.heap.size,0,none⟩),.pointer (some ⟨w1.heap.size,0,none⟩)],.func (.func 145) #[] #[.pointer (some ⟨w.heap.size,0,none⟩),.pointer (some ⟨w1.heap.size,0,none⟩)]] 48))
  (fun s' w' h' j v hv=>cell_of (h'.block 0 rfl) (by rw [← hv];rcases j with _ | _ | j <;> simp [ED]))
  (fun f hf=>by
   simp only [List.mem_cons,List.not_mem_nil,or_false] at hf
   rcases hf with rfl | rfl
   ·exact xN.out.1
   ·exact xN.out.2)
  (fun k f gi hf hg w' h0 h'=>by
   have hops:(bM (([bF n,fun d=>aH d n []]:List (ae→ae×Int)).take k) d).1.ops≤100000000:=by
    have:=yo (g:=([bF n,fun d=>aH d n []]:List (ae→ae×Int)).take k) (d:=d) (fun f hf d=>by
     have:=List.mem_of_mem_take hf
     simp only [List.mem_cons,List.not_mem_nil,or_false] at this
     rcases this with rfl | rfl
     ·exact kQ n d
     ·exact qH d n [])
    have h2:(([bF n,fun d=>aH d n []]:List (ae→ae×Int)).take k).length≤2:=by rw [List.length_take];exact Nat.min_le_right _ _
    omega
   generalize bM (([bF n,fun d=>aH d n []]:List (ae→ae×Int)).take k) d=r at *
   rcases k with _ | _ | k
   ·cases hf;cases hg
    have:=Yi h' (i+3) (Cw.out _) hops n hnm 2 1 rfl rfl
    simpa [List.set_set] using this
   ·cases hf;cases hg
    have:=Yj h' (i+3) (Cw.out _) hops n hnm 2 1 rfl rfl
    simpa [List.set_set] using this
   ·simp at hf) (by rw [HD.out];exact g3)
 have KH:=Lib.hid K
 clear K g1 g2 g3 C1 hA hi Cw HD xN
 go_wp2_with fail
 refine KH.out.mono ?_
 rintro e w2 ⟨rfl,g4⟩
 rw [HFD.out] at g4 ⊢
 have G:=Lib.hid g4.drop.drop.drop
 clear g4 KH
 go_wp2_with fail
 go_ret
 exact⟨rfl,G.out⟩
end
theorem oV:bL.size≤maxLen:=by show 1≤maxLen;unfold maxLen;omega
theorem nD:aB.size≤maxLen:=by show 5≤maxLen;unfold maxLen;omega
section
variable {F0:List Nat} {w0 w:World} {R:List az} {bd:Nat} {d:ae}
theorem Vn (h:In F0 w0 w R) (i:Nat) (hA:R[i]?=some (bJ bd d)) (ho:d.ops≤100000000) {db:Nat} (j:Nat) (hj:R[j]?=some (Cells db #[aD bd] 26)) :
  Calls Tryz.prog 148 #[.pointer (some ⟨db,0,none⟩)] w fun e w'=>e=.returned (.int .i64 (bF aB d).2)∧In F0 w0 w' (R.set i (bJ bd (bF aB d).1)):=by
 have c0:w.cell? ⟨db,0,none⟩=some (aD bd):=cell_of (h.block j hj) rfl
 have C:=Lib.hid (zQ h i hA ho aB nD)
 clear h hA hj
 go_enter Tryz.func148,Tryz.ntmps148
 go_wp2_with fail
 refine C.out.mono ?_
 rintro e w1 ⟨rfl,g⟩
 have G:=Lib.hid g
 clear g C
 go_wp2_with fail
 go_ret
 exact⟨rfl,G.out⟩
theorem Vo (h:In F0 w0 w R) (i:Nat) (hA:R[i]?=some (bJ bd d)) (ho:d.ops≤100000000) {db nb:Nat} (j k l:Nat) (hij:l≠i) (hj:R[j]?=some (Cells db #[aD bd] 26))
  {a:Option Addr} {c:Nat} {bs:List UInt8} (hk:R[k]?=some (Cells nb #[.slice a bs.length c] 23)) (hB:R[l]?=some (ay 5 1 (.slice a bs.length c) bs.length (eD bs))) (hm:bs.length≤10000000) :
  Calls Tryz.prog 149 #[.pointer (some ⟨db,0,none⟩),.pointer (some ⟨nb,0,none⟩)] w fun e w'=>e=.returned (.int .i64 (aH d aB bs).2)∧In F0 w0 w' (R.set i (bJ bd (aH d aB bs).1)):=by
 have c0:w.cell? ⟨db,0,none⟩=some (aD bd):=cell_of (h.block j hj) rfl
 have c1:w.cell? ⟨nb,0,none⟩=some (.slice a bs.length c):=cell_of (h.block k hk) rfl
 have C:=Lib.hid (uj h i hA ho aB nD l hij hB hm)
 clear h hA hj hk hB
 go_enter Tryz.func149,Tryz.ntmps149
 go_wp2_with fail
 refine C.out.mono ?_
 rintro e w1 ⟨rfl,g⟩
 have G:=Lib.hid g
 clear g C
 go_wp2_with fail
 go_ret
 exact⟨rfl,G.out⟩
theorem Vp (h:In F0 w0 w R) (i:Nat) (hA:R[i]?=some (bJ bd d)) (ho:d.ops≤100000000) {db:Nat} (j:Nat) (hj:R[j]?=some (Cells db #[aD bd] 26)) :
  Calls Tryz.prog 150 #[.pointer (some ⟨db,0,none⟩)] w fun e w'=>e=.returned (.int .i64 (aW d aB).2)∧In F0 w0 w' (R.set i (bJ bd (aW d aB).1)):=by
 have c0:w.cell? ⟨db,0,none⟩=some (aD bd):=cell_of (h.block j hj) rfl
 have C:=Lib.hid (oU h i hA ho aB nD)
 clear h hA hj
 go_enter Tryz.func150,Tryz.ntmps150
 go_wp2_with fail
 refine C.out.mono ?_
 rintro e w1 ⟨rfl,g⟩
 have G:=Lib.hid g
 clear g C
 go_wp2_with fail
 go_ret
 exact⟨rfl,G.out⟩
theorem Vq (h:In F0 w0 w R) (i:Nat) (hA:R[i]?=some (bJ bd d)) (ho:d.ops≤100000000) {db:Nat} (j:Nat) (hj:R[j]?=some (Cells db #[aD bd] 26)) :
  Calls Tryz.prog 151 #[.pointer (some ⟨db,0,none⟩)] w fun e w'=>e=.returned (.int .i64 (bZ d aB bL).2)∧In F0 w0 w' (R.set i (bJ bd (bZ d aB bL).1)):=by
 have c0:w.cell? ⟨db,0,none⟩=some (aD bd):=cell_of (h.block j hj) rfl
 have C:=Lib.hid (NK h i hA ho aB bL nD oV)
 clear h hA hj
 go_enter Tryz.func151,Tryz.ntmps151
 go_wp2_with fail
 refine C.out.mono ?_
 rintro e w1 ⟨rfl,g⟩
 have G:=Lib.hid g
 clear g C
 go_wp2_with fail
 go_ret
 exact⟨rfl,G.out⟩
theorem yT (m:dw) (d:ae):bM [bF aB,fun d=>aH d aB (ak (eu m)),fun d=>aW d aB,fun d=>bZ d aB bL] d=eQ m d:=rfl
theorem BJ (m:dw) (d:ae):(eQ m d).1.ops≤d.ops+4:=by
 have h:=yo (g:=[bF aB,fun d=>aH d aB (ak (eu m)),fun d=>aW d aB,fun d=>bZ d aB bL]) (d:=d) (fun f hf d=>by
  simp only [List.mem_cons,List.not_mem_nil,or_false] at hf
  rcases hf with rfl | rfl | rfl | rfl
  ·exact kQ _ d
  ·exact qH d _ _
  ·exact fZ d _
  ·exact IJ d _ _)
 rw [yT] at h
 exact h
theorem oW (m:dw) (d:ae):(aK m d).1.ops≤d.ops+5:=by
 have h1:=BJ m d
 have h2:=wZ (eQ m d).1
 unfold aK;split
 ·show d.ops≤_;omega
 ·split
  ·show (eQ m d).1.ops≤_;omega
  ·show (bE (eQ m d).1).1.ops≤_;omega
theorem BK (h:In F0 w0 w R) (i:Nat) (hA:R[i]?=some (bJ bd d)) (ho:d.ops≤99999990) (m:dw) {A:Option Addr} {c:Nat} (hs:Nv F0 w0 R A m.aa) (hn:m.aa.length≤1000000000) :
  Calls Tryz.prog 67 #[aD bd,iM m A c] w fun e w'=>e=.returned (.tuple #[.bool (aK m d).2.1,.int .i64 (aK m d).2.2])∧In F0 w0 w' (R.set i (bJ bd (aK m d).1)):=by
 have hi:=(List.getElem?_eq_some_iff.1 hA).1
 have h1:=(h.cells #[aD bd] 26).cells #[.int .i64 m.aj,.int .i64 m.next,.slice A m.aa.length c] 111
 have C1:=Uk h1 m (A:=A) (c:=c) (fun w' h'=>hs w' h'.drop.drop) hn
 simp only [World.size_alloc] at C1
 have HD:=Lib.hid (show R.set i (bJ bd d)=R from pV hA)
 have Cw:=Lib.hid (fun x:az=>(show (R.set i x)[i]?=some x by rw [List.getElem?_set_self hi]))
 have K1:=Lib.hid C1
 clear h h1 hs C1 hA
 by_cases hm:fM m=false
 ·have HF:Hid (aK m d=(d,false,1)):=Lib.hid (by unfold aK;rw [if_pos hm])
  have HE:Hid (nT m=([],1)):=Lib.hid (by unfold nT;rw [hm];rfl)
  clear hm
  unfold iM at K1 ⊢
  go_enter Tryz.func67,Tryz.ntmps67
  go_wp2_with fail
  refine K1.out.mono ?_
  rintro e w1 ⟨v,rfl,g1⟩
  have G:=Lib.hid g1.drop.drop.drop
  obtain⟨F1,r1⟩:=g1.get 0 rfl
  obtain⟨a,c1,rfl,-,-,-⟩:=r1.shape
  rw [HE.out]
  clear g1 r1 K1 Cw
  go_wp2_with fail
  go_ret2
  exact⟨by rw [HF.out];rfl,by rw [HF.out,HD.out];exact G.out.alloc _⟩
 have hm':fM m=true:=by simpa using hm
 have Xt:=(bH.1 hm').1
 have HE:Hid (nT m=(ak (eu m),0)):=Lib.hid (by unfold nT;rw [if_pos hm'])
 have HL:Hid ((ak (eu m)).length≤10000000):=Lib.hid (by rw [dD,show (eu m).body=jD m from rfl,lL];omega)
 have HFR:=Lib.hid (yT m d)
 have HFO:=Lib.hid (BJ m d)
 have hC:aK m d=if (eQ m d).2≠0 then ((eQ m d).1,false,(eQ m d).2) else ((bE (eQ m d).1).1,true,(bE (eQ m d).1).2):=by unfold aK;rw [if_neg hm]
 have HC:=Lib.hid hC
 have lV:∀ args w',(callFunc 148 args).run Tryz.prog w'=.ok (.enter 148 args) w':=enters_of Tryz.func148 (by kernel_rfl) rfl
 have lW:∀ args w',(callFunc 149 args).run Tryz.prog w'=.ok (.enter 149 args) w':=enters_of Tryz.func149 (by kernel_rfl) rfl
 have uE:∀ args w',(callFunc 150 args).run Tryz.prog w'=.ok (.enter 150 args) w':=enters_of Tryz.func150 (by kernel_rfl) rfl
 have MG:∀ args w',(callFunc 151 args).run Tryz.prog w'=.ok (.enter 151 args) w':=enters_of Tryz.func151 (by kernel_rfl) rfl
 have xN:=Lib.hid (And.intro lV (And.intro lW (And.intro uE MG)))
 have HI:Hid (∀ (k:Nat) (f:ae→ae×Int),[bF aB,fun d=>aH d aB (ak (eu m)),fun d=>aW d aB,fun d=>bZ d aB bL][k]?=some f→∀ d',d'.ops≤99999990+k→(f d').1.ops≤99999990+(k+1)):=Lib.hid fun k f hf d' hd'=>by
  rcases k with _ | _ | _ | _ | k
  ·cases hf;have:=kQ aB d';omega
  ·cases hf;have:=qH d' aB (ak (eu m));simp only;omega
  ·cases hf;have:=fZ d' aB;simp only;omega
  ·cases hf;have:=IJ d' aB bL;simp only;omega
  ·simp at hf
 clear hm hm' Xt lV lW uE MG hC
 unfold iM at K1 ⊢
 go_enter Tryz.func67,Tryz.ntmps67
 go_wp2_with fail
 refine K1.out.mono ?_
 rintro e w1 ⟨v,rfl,g1⟩
 rw [HE.out] at g1 ⊢
 clear K1
 generalize hbs:ak (eu m)=bs at *
 obtain⟨F1,r1⟩:=g1.get 0 rfl
 obtain⟨a,c1,rfl,-,-,-⟩:=r1.shape
 clear r1
 have db:w1.cell? ⟨w.heap.size,0,none⟩=some (aD bd):=cell_of (g1.block 2 rfl) rfl
 have g2:=g1.cells #[.slice a bs.length c1] 23
 have g3:=g2.cells #[.func (.func 148) #[] #[.pointer (some ⟨w.heap.size,0,none⟩)],.func (.func 149) #[] #[.pointer (some ⟨w.heap.size,0,none⟩),.pointer (some ⟨w1.heap.size,0,none⟩)],.func (.func 150) #[] #[.pointer (some ⟨w.heap.size,0,none⟩)],.func (.func 151) #[] #[.pointer (some ⟨w.heap.size,0,none⟩)]] 48
 simp only [World.size_alloc] at g3
 have KK:=AQ (fun k d'=>d'.ops≤99999990+k) (fun d'=>Cells w1.heap.size #[.slice a bs.length c1] 23::ay 5 1 (.slice a bs.length c1) bs.length (eD bs)::Cells (w.heap.size+1) #[.int .i64 m.aj,.int .i64 m.next,.slice A m.aa.length c] 111::Cells w.heap.size #[aD bd] 26::R.set i (bJ bd d'))
  (w1.heap.size+1) 48 [bF aB,fun d=>aH d aB bs,fun d=>aW d aB,fun d=>bZ d aB bL]
  [(148,#[.pointer (some ⟨w.heap.size,0,none⟩)]),(149,#[.pointer (some ⟨w.heap.size,0,none⟩),.pointer (some ⟨w1.heap.size,0,none⟩)]),(150,#[.pointer (some ⟨w.heap.size,0,none⟩)]),(151,#[.pointer (some ⟨w.heap.size,0,none⟩)])] rfl (by simp) d 4
  (w:=(w1.alloc (.cells #[.slice a bs.length c1] 23)).alloc (.cells #[.func (.func 148) #[] #[.pointer (some ⟨w.heap.size,0,none⟩)],.func (.func 149) #[] #[.pointer (some ⟨w.heap.size,0,none⟩),.pointer (some ⟨w1.heap.size,0,none⟩)],.func (.func 150) #[] #[.pointer (some ⟨w.heap.size,0,none⟩)],.func (.func 151) #[] #[.pointer (some ⟨w.heap.size,0,none⟩)]] 48))
  (by omega) HI.out
  (fun f hf=>by
   simp only [List.mem_cons,List.not_mem_nil,or_false] at hf
   rcases hf with rfl | rfl | rfl | rfl
   ·exact xN.out.1
   ·exact xN.out.2.1
   ·exact xN.out.2.2.1
   ·exact xN.out.2.2.2)
  (fun k f gi hf hg w' d' hI h'=>by
   rcases k with _ | _ | _ | _ | k
   ·cases hf;cases hg
    have:=Vn h' (i+5) (Cw.out _) (by omega) 4 rfl
    simpa [List.set_set] using this
   ·cases hf;cases hg
    have:=Vo h' (i+5) (Cw.out _) (by omega) 4 1 2 (by omega) rfl rfl rfl HL.out
    simpa [List.set_set] using this
   ·cases hf;cases hg
    have:=Vp h' (i+5) (Cw.out _) (by omega) 4 rfl
    simpa [List.set_set] using this
   ·cases hf;cases hg
    have:=Vq h' (i+5) (Cw.out _) (by omega) 4 rfl
    simpa [List.set_set] using this
   ·simp at hf) (by rw [HD.out];exact g3)
 rw [HFR.out] at KK
 have KH:=Lib.hid KK
 clear KK g1 g2 g3 HD xN HI HL HE HFR
 by_cases hz:(eQ m d).2=0
 ·have HC2:Hid (aK m d=((bE (eQ m d).1).1,true,(bE (eQ m d).1).2)):=Lib.hid (by rw [HC.out,if_neg (by simpa using hz)])
  have HZ:=Lib.hid hz
  clear hz HC
  go_wp2_with fail
  refine KH.out.mono ?_
  rintro e w2 ⟨rfl,g4⟩
  rw [HZ.out]
  have db2:w2.cell? ⟨w.heap.size,0,none⟩=some (aD bd):=cell_of (g4.block 4 rfl) rfl
  have C5:=Lib.hid (vD g4 (i+5) (Cw.out _) (by have:=HFO.out;omega))
  clear g4 KH db
  go_wp2_with fail
  refine C5.out.mono ?_
  rintro e w3 ⟨rfl,g5⟩
  have G:=Lib.hid g5.drop.drop.drop.drop.drop
  clear g5 C5
  go_wp2_with fail
  go_ret2
  exact⟨by rw [HC2.out];rfl,by rw [HC2.out];have:=G.out;rwa [List.set_set] at this⟩
 ·have HC2:Hid (aK m d=((eQ m d).1,false,(eQ m d).2)):=Lib.hid (by rw [HC.out,if_pos (by simpa using hz)])
  have q:((eQ m d).2 != 0)=true:=by rw [bne_iff_ne];exact hz
  have HZ:=Lib.hid (show ∃ x,(eQ m d).2=x from ⟨_,rfl⟩)
  clear hz HC
  go_wp2_with fail
  refine KH.out.mono ?_
  rintro e w2 ⟨rfl,g4⟩
  have G:=Lib.hid g4.drop.drop.drop.drop.drop
  clear g4 KH
  go_wp2_with fail
  go_ret2
  exact⟨by rw [HC2.out];rfl,by rw [HC2.out];exact G.out⟩
end
def xc (bd:Nat) (l:bK) (v:Value):Array Value:=#[aD bd,.int .i64 l.size,.int .i64 l.m.aj,.int .i64 l.m.next,v,.bool l.loose]
def gH (l:bK):Prop:=16≤l.size∧l.size≤1048576∧fM l.m=true
def eB (lb bd:Nat) (l:bK):az:=fun w F=>∃ v,Star [Cells lb (xc bd l v) 120,ay 3 1 v l.m.aa.length (cz l.m.aa)] w F
theorem rF (lb bd:Nat) (l:bK) (v:Value):∀ A∈[Cells lb (xc bd l v) 120,ay 3 1 v l.m.aa.length (cz l.m.aa)],bC A:=by
 intro A hA
 simp only [List.mem_cons,List.not_mem_nil,or_false] at hA
 rcases hA with rfl | rfl
 ·exact Cells.aA _ _ _
 ·exact ay.aA _ _ _ _ _
theorem eB.aA (lb bd:Nat) (l:bK):bC (eB lb bd l):=
 ⟨fun ⟨v,h⟩ hk=>⟨v,(bC.star (rF lb bd l v)).keep h hk⟩,fun ⟨v,h⟩=>(bC.star (rF lb bd l v)).lt h⟩
section
variable {F0:List Nat} {w0 w:World} {R:List az} {bd lb:Nat} {d:ae} {l:bK}
theorem In.lX (h:In F0 w0 w (eB lb bd l::R)):∃ a c,In F0 w0 w (ay 3 1 (.slice a l.m.aa.length c) l.m.aa.length (cz l.m.aa)::Cells lb (xc bd l (.slice a l.m.aa.length c)) 120::R):=by
 obtain⟨v,h1⟩:=h.ex (G:=fun v=>Star [Cells lb (xc bd l v) 120,ay 3 1 v l.m.aa.length (cz l.m.aa)]) 0 rfl (fun v=>bC.star (rF lb bd l v))
 have h2:=h1.split (A:=Cells lb (xc bd l v) 120) (B:=ay 3 1 v l.m.aa.length (cz l.m.aa)) 0 rfl (Cells.aA _ _ _) (ay.aA _ _ _ _ _)
 obtain⟨F,hr⟩:=h2.get 0 rfl
 obtain⟨a,c,rfl,-,-,-⟩:=hr.shape
 exact⟨a,c,h2⟩
theorem In.nE {l':bK} {v:Value} (h:In F0 w0 w (ay 3 1 v l'.m.aa.length (cz l'.m.aa)::Cells lb (xc bd l' v) 120::R)):In F0 w0 w (eB lb bd l'::R):=
 h.fold (C:=eB lb bd l') 0 rfl (eB.aA _ _ _) (fun F hF=>⟨v,hF⟩)
theorem BL (h:In F0 w0 w (eB lb bd l::bJ bd d::R)) (ho:d.ops≤100000000) :
  Calls Tryz.prog 70 #[aD lb] w fun e w'=>e=.returned (.int .i64 (aY (d,l)).2)∧In F0 w0 w' (eB lb bd (aY (d,l)).1.2::bJ bd (aY (d,l)).1.1::R):=by
 obtain⟨a,c,h1⟩:=h.lX
 have c5:w.cell? ⟨lb,5,none⟩=some (.bool l.loose):=cell_of (h1.block 1 rfl) rfl
 have c0:w.cell? ⟨lb,0,none⟩=some (aD bd):=cell_of (h1.block 1 rfl) rfl
 have C:=Lib.hid (vD h1 2 rfl ho)
 cases hq:l.loose with
 | false=>
  have HE:Hid (aY (d,l)=((d,l),0)):=Lib.hid (by unfold aY;rw [hq];rfl)
  have H:=Lib.hid h
  rw [hq] at c5
  clear h h1 C hq
  go_enter Tryz.func70,Tryz.ntmps70
  go_wp2_with fail
  go_ret
  exact⟨by rw [HE.out];rfl,by rw [HE.out];exact H.out⟩
 | true=>
  have HE:Hid (aY (d,l)=(((bE d).1,{ l with loose:=decide ((bE d).2≠0) }),(bE d).2)):=Lib.hid (by unfold aY;rw [hq];rfl)
  rw [hq] at c5
  clear h h1 hq
  go_enter Tryz.func70,Tryz.ntmps70
  go_wp2_with fail
  refine C.out.mono ?_
  rintro e w1 ⟨rfl,g⟩
  have d5:w1.cell? ⟨lb,5,none⟩=some (.bool l.loose):=cell_of (g.block 1 rfl) rfl
  have f5:w1.frozen? ⟨lb,5,none⟩=false:=aL (g.block 1 rfl)
  have g2:=g.put (b:=lb) 1 rfl 5 (.bool ((bE d).2 != 0))
  have g3:In F0 w0 (w1.setCell ⟨lb,5,none⟩ (.bool ((bE d).2 != 0))) (eB lb bd { l with loose:=decide ((bE d).2≠0) }::bJ bd (bE d).1::R):=
   In.nE (l':={ l with loose:=decide ((bE d).2≠0) }) (v:=.slice a l.m.aa.length c) (by
    have e:((bE d).2 != 0)=decide ((bE d).2≠0):=by simp [bne,Bool.beq_eq_decide_eq]
    unfold xc
    rw [← e]
    exact g2)
  have G:=Lib.hid g3
  have HX:Hid (∃ x,(bE d).2=x):=Lib.hid ⟨_,rfl⟩
  clear g g2 g3 C c0 c5
  go_wp2_with fail
  go_ret
  exact⟨by rw [HE.out];rfl,by rw [HE.out];exact G.out⟩
theorem FP (h:In F0 w0 w (eB lb bd l::bJ bd d::R)) (n:ByteArray) (hn:n.size≤maxLen) :
  Calls Tryz.prog 73 #[aD lb,.string n] w fun e w'=>e=.returned (.int .i64 (bytesD d n))∧In F0 w0 w' (eB lb bd l::bJ bd d::R):=by
 obtain⟨a,c,h1⟩:=h.lX
 have c0:w.cell? ⟨lb,0,none⟩=some (aD bd):=cell_of (h1.block 1 rfl) rfl
 have C:=Lib.hid (wR h 1 rfl n hn)
 clear h h1
 go_enter Tryz.func73,Tryz.ntmps73
 go_wp2_with fail
 refine C.out.mono ?_
 rintro e w1 ⟨v,rfl,g⟩
 obtain⟨F1,r1⟩:=g.get 0 rfl
 obtain⟨a1,c1,rfl,-,-,-⟩:=r1.shape
 have G:=Lib.hid g.drop
 have HX:Hid (((gY d n).getD []).length=bytesD d n):=Lib.hid rfl
 rw [HX.out]
 clear g r1 C
 go_wp2_with fail
 go_ret
 exact⟨rfl,G.out⟩
theorem RX (h:In F0 w0 w (eB lb bd l::R)) (x y:Nat) (hx:x≤1000000000) (hy:y≤1000000000) (hl:l.size≤1048576) :
  Calls Tryz.prog 72 #[aD lb,.int .i64 x,.int .i64 y] w fun e w'=>e=.returned (.bool (lK l x y))∧w'=w:=by
 obtain⟨a,c,h1⟩:=h.lX
 have c1:w.cell? ⟨lb,1,none⟩=some (.int .i64 l.size):=cell_of (h1.block 1 rfl) rfl
 clear h h1
 by_cases k:x=0
 ·have HE:Hid (lK l x y=true):=Lib.hid (by unfold lK;simp [k])
  subst k
  go_enter Tryz.func72,Tryz.ntmps72
  go_wp2_with fail
  go_ret
  exact⟨by rw [HE.out];rfl,rfl⟩
 ·have q0:decide ((x:Int)=0)=false:=by simp;omega
  have q1:((x:Int) == 0)=false:=by simp;omega
  have HE:Hid (lK l x y=decide ((x:Int)+y≤l.size)):=Lib.hid (by unfold lK;rw [decide_eq_decide];omega)
  clear k
  go_enter Tryz.func72,Tryz.ntmps72
  go_wp2_with fail
  go_ret
  exact⟨by rw [HE.out];rfl,rfl⟩
theorem yt (h:In F0 w0 w (eB lb bd l::R)) (hl:gH l) :
  Calls Tryz.prog 74 #[aD lb] w fun e w'=>e=.returned (.string (bA l))∧In F0 w0 w' (eB lb bd l::R):=by
 obtain⟨a,c,h1⟩:=h.lX
 have hm:=(bH.1 hl.2.2).1
 obtain⟨s,hs⟩:∃ s,l.m.aa[l.m.aa.length - 1]?=some s:=⟨l.m.aa[l.m.aa.length - 1]'(by omega),List.getElem?_eq_getElem _⟩
 have hsm:=dW hl.2.2 (List.mem_of_getElem? hs)
 have HL:Hid (ai s=bA l):=Lib.hid (by
  unfold bA
  rw [List.getLastD_eq_getLast?,List.getLast?_eq_getElem?,hs];rfl)
 obtain⟨F1,r1⟩:=h1.get 0 rfl
 obtain⟨g,rfl,cs⟩:=r1.at.2 (l.m.aa.length - 1) (.int .i64 s) (by simp [cz,hs])
 have HP:Hid (∀ w',In F0 w0 w' (ay 3 1 (.slice (some ⟨g,0,none⟩) l.m.aa.length c) l.m.aa.length (cz l.m.aa)::Cells lb (xc bd l (.slice (some ⟨g,0,none⟩) l.m.aa.length c)) 120::R) →
   (w'.cell? ⟨lb,4,none⟩=some (.slice (some ⟨g,0,none⟩) l.m.aa.length c)∧w'.cell? ⟨g,l.m.aa.length - 1,none⟩=some (.int .i64 s))∧In F0 w0 w' (eB lb bd l::R)):=Lib.hid fun w' h'=>by
  obtain⟨F2,r2⟩:=h'.get 0 rfl
  obtain⟨g2,e2,cs2⟩:=r2.at.2 (l.m.aa.length - 1) (.int .i64 s) (by simp [cz,hs])
  cases e2
  exact⟨⟨cell_of (h'.block 1 rfl) rfl,cs2⟩,h'.nE⟩
 have c4:w.cell? ⟨lb,4,none⟩=some (.slice (some ⟨g,0,none⟩) l.m.aa.length c):=cell_of (h1.block 1 rfl) rfl
 have C:=Lib.hid (fun n=>nU (h1.drewN n) s (by omega))
 have HW:=Lib.hid (HP.out w h1).1
 have hn1:1≤l.m.aa.length:=hm.2.2.1
 have hn2:l.m.aa.length≤64:=hm.2.2.2.1
 clear h h1 hl hm hs hsm r1
 generalize l.m.aa.length=n at *
 obtain⟨k,hk⟩:∃ k,n - 1=k:=⟨n - 1,rfl⟩
 rw [hk] at cs HP HW
 have hw1:IntKind.i64.wrap ((n:Int) - 1)=(k:Int):=by rw [show (n:Int) - 1=(k:Int) by omega];exact IntWalk.i64_in _ (by omega)
 have hk0:(0:Int)≤(k:Int):=by omega
 have hk1:(k:Int) < (n:Int):=by omega
 have hk2:k < n:=by omega
 clear hk hn1 hn2
 go_enter Tryz.func74,Tryz.ntmps74
 go_wp2_with fail
 go_region_held3 (fun w'=>w'.cell? ⟨lb,4,none⟩=some (.slice (some ⟨g,0,none⟩) n c)∧w'.cell? ⟨g,k,none⟩=some (.int .i64 s)) (first | exact HW.out | exact hc1) (first | (go_at_call 65;refine (C.out 1).mono ?_;rintro e w1 ⟨rfl,g1⟩;obtain⟨hc1,hfin⟩:=HP.out w1 g1;have G:=Lib.hid hfin;clear g1 hfin))
 go_wp2_with fail
 go_ret
 exact⟨by rw [HL.out];rfl,G.out⟩
end
section
variable {F0:List Nat} {w0 w:World} {R:List az} {bd lb:Nat} {d:ae} {l:bK}
abbrev lZ (A:Option Addr) (c:Nat) (s:List Nat):az:=ay 3 1 (.slice A s.length c) s.length (cz s)
def qI (lb bd:Nat) (m:dw) (A:Option Addr) (c:Nat) (s:DL) (F0:List Nat) (w0:World) (R:List az) (e:Ending) (w':World):Prop:=
 e=.returned (.tuple #[.bool (dI m s).2.1,.int .i64 (dI m s).2.2])∧In F0 w0 w' (eB lb bd (dI m s).1.2::bJ bd (dI m s).1.1::R) ∧
  ((dI m s).2.1=false→In F0 w0 w' (eB lb bd (dI m s).1.2::bJ bd (dI m s).1.1::lZ A c m.aa::R))
theorem Vr (m:dw) {A:Option Addr} {c:Nat} (h:In F0 w0 w (eB lb bd l::bJ bd d::lZ A c m.aa::R)) (ho:d.ops≤99999990) (hn:m.aa.length≤1000000000) :
  Calls Tryz.prog 95 #[aD lb,iM m A c] w (qI lb bd m A c (d,l) F0 w0 R):=by
 obtain⟨a,ca,h1⟩:=h.lX
 have h2:=h1.cells #[.int .i64 m.aj,.int .i64 m.next,.slice A m.aa.length c] 111
 have HW:Hid (∀ w',In F0 w0 w' (Cells w.heap.size #[.int .i64 m.aj,.int .i64 m.next,.slice A m.aa.length c] 111::ay 3 1 (.slice a l.m.aa.length ca) l.m.aa.length (cz l.m.aa)::Cells lb (xc bd l (.slice a l.m.aa.length ca)) 120::bJ bd (aK m d).1::lZ A c m.aa::R) →
   (w'.cell? ⟨lb,0,none⟩=some (aD bd)∧w'.cell? ⟨w.heap.size,0,none⟩=some (.int .i64 m.aj)∧w'.cell? ⟨w.heap.size,1,none⟩=some (.int .i64 m.next)∧w'.cell? ⟨w.heap.size,2,none⟩=some (.slice A m.aa.length c)) ∧
   (w'.frozen? ⟨lb,2,none⟩=false∧w'.frozen? ⟨lb,3,none⟩=false∧w'.frozen? ⟨lb,4,none⟩=false∧w'.frozen? ⟨lb,5,none⟩=false ∧
    ∃ x2 x3 x4 x5,w'.cell? ⟨lb,2,none⟩=some x2∧w'.cell? ⟨lb,3,none⟩=some x3∧w'.cell? ⟨lb,4,none⟩=some x4∧w'.cell? ⟨lb,5,none⟩=some x5)):=Lib.hid fun w' h'=>
  ⟨⟨cell_of (h'.block 2 rfl) rfl,cell_of (h'.block 0 rfl) rfl,cell_of (h'.block 0 rfl) rfl,cell_of (h'.block 0 rfl) rfl⟩,aL (h'.block 2 rfl),aL (h'.block 2 rfl),aL (h'.block 2 rfl),aL (h'.block 2 rfl),_,_,_,_,cell_of (h'.block 2 rfl) rfl,cell_of (h'.block 2 rfl) rfl,cell_of (h'.block 2 rfl) rfl,cell_of (h'.block 2 rfl) rfl⟩
 have zm:Hid ((w.alloc (.cells #[.int .i64 m.aj,.int .i64 m.next,.slice A m.aa.length c] 111)).cell? ⟨lb,0,none⟩=some (aD bd)∧(w.alloc (.cells #[.int .i64 m.aj,.int .i64 m.next,.slice A m.aa.length c] 111)).cell? ⟨w.heap.size,0,none⟩=some (.int .i64 m.aj)∧(w.alloc (.cells #[.int .i64 m.aj,.int .i64 m.next,.slice A m.aa.length c] 111)).cell? ⟨w.heap.size,1,none⟩=some (.int .i64 m.next)∧(w.alloc (.cells #[.int .i64 m.aj,.int .i64 m.next,.slice A m.aa.length c] 111)).cell? ⟨w.heap.size,2,none⟩=some (.slice A m.aa.length c)):=Lib.hid
  ⟨cell_of (h2.block 2 rfl) rfl,cell_of (h2.block 0 rfl) rfl,cell_of (h2.block 0 rfl) rfl,cell_of (h2.block 0 rfl) rfl⟩
 have C:=Lib.hid (fun n=>BK (h2.drewN n) 3 rfl ho m (A:=A) (c:=c) (fun w' h'=>by obtain⟨F',r'⟩:=h'.get 4 rfl;exact r'.all) hn)
 have HQ:Hid (dI m (d,l)=(((aK m d).1,if (aK m d).2.1 then { l with m:=m,loose:=decide ((aK m d).2.2≠0) } else l),(aK m d).2.1,(aK m d).2.2)):=Lib.hid rfl
 have HT:Hid (∀ w',In F0 w0 w' (Cells w.heap.size #[.int .i64 m.aj,.int .i64 m.next,.slice A m.aa.length c] 111::ay 3 1 (.slice a l.m.aa.length ca) l.m.aa.length (cz l.m.aa)::Cells lb (xc bd l (.slice a l.m.aa.length ca)) 120::bJ bd (aK m d).1::lZ A c m.aa::R) →
   In F0 w0 ((((w'.setCell ⟨lb,2,none⟩ (.int .i64 m.aj)).setCell ⟨lb,3,none⟩ (.int .i64 m.next)).setCell ⟨lb,4,none⟩ (.slice A m.aa.length c)).setCell ⟨lb,5,none⟩ (.bool ((aK m d).2.2 != 0)))
    (eB lb bd { l with m:=m,loose:=decide ((aK m d).2.2≠0) }::bJ bd (aK m d).1::R)):=Lib.hid fun w' h'=>by
  have e:((aK m d).2.2 != 0)=decide ((aK m d).2.2≠0):=by simp [bne,Bool.beq_eq_decide_eq]
  have g:=(((h'.put (b:=lb) 2 rfl 2 (.int .i64 m.aj)).put (b:=lb) 2 rfl 3 (.int .i64 m.next)).put (b:=lb) 2 rfl 4 (.slice A m.aa.length c)).put (b:=lb) 2 rfl 5 (.bool ((aK m d).2.2 != 0))
  have g2:=g.aI (R1:=[_,_,_,_,_]) [4,2,3] (by decide) rfl
  refine In.nE (l':={ l with m:=m,loose:=decide ((aK m d).2.2≠0) }) (v:=.slice A m.aa.length c) ?_
  unfold xc
  rw [← e]
  exact g2
 have HN:Hid (∀ w',In F0 w0 w' (Cells w.heap.size #[.int .i64 m.aj,.int .i64 m.next,.slice A m.aa.length c] 111::ay 3 1 (.slice a l.m.aa.length ca) l.m.aa.length (cz l.m.aa)::Cells lb (xc bd l (.slice a l.m.aa.length ca)) 120::bJ bd (aK m d).1::lZ A c m.aa::R) →
   In F0 w0 w' (eB lb bd l::bJ bd (aK m d).1::lZ A c m.aa::R)):=Lib.hid fun w' h'=>h'.drop.nE
 unfold iM at C ⊢
 clear h h1 h2 hn ho
 cases hq:(aK m d).2.1 with
 | true=>
  have HF:Hid (∀ w',In F0 w0 w' (eB lb bd { l with m:=m,loose:=decide ((aK m d).2.2≠0) }::bJ bd (aK m d).1::R)→qI lb bd m A c (d,l) F0 w0 R (.returned (.tuple #[.bool true,.int .i64 (aK m d).2.2])) w'):=Lib.hid fun w' h'=>by
   unfold qI
   rw [HQ.out,hq]
   exact⟨rfl,h',fun e=>by cases e⟩
  rw [hq] at C
  clear HQ HN hq
  go_enter Tryz.func95,Tryz.ntmps95
  go_wp2_with fail
  go_region_held3 (fun w'=>w'.cell? ⟨lb,0,none⟩=some (aD bd)∧w'.cell? ⟨w.heap.size,0,none⟩=some (.int .i64 m.aj)∧w'.cell? ⟨w.heap.size,1,none⟩=some (.int .i64 m.next)∧w'.cell? ⟨w.heap.size,2,none⟩=some (.slice A m.aa.length c)) (first | exact zm.out | exact hc1) (first | (go_at_call 67;refine (C.out 1).mono ?_;rintro e w1 ⟨rfl,g1⟩;obtain⟨hc1,f2,f3,f4,f5,x2,x3,x4,x5,d2,d3,d4,d5⟩:=HW.out w1 g1;have G:=Lib.hid (HF.out _ (HT.out w1 g1));clear g1))
  go_wp2_with fail
  go_ret2
  exact G.out
 | false=>
  have HF:Hid (∀ w',In F0 w0 w' (eB lb bd l::bJ bd (aK m d).1::lZ A c m.aa::R)→qI lb bd m A c (d,l) F0 w0 R (.returned (.tuple #[.bool false,.int .i64 (aK m d).2.2])) w'):=Lib.hid fun w' h'=>by
   unfold qI
   rw [HQ.out,hq]
   exact⟨rfl,h'.aI (R1:=[_,_,_]) [0,1] (by decide) rfl,fun _=>h'⟩
  rw [hq] at C
  clear HQ HT hq
  go_enter Tryz.func95,Tryz.ntmps95
  go_wp2_with fail
  go_region_held3 (fun w'=>w'.cell? ⟨lb,0,none⟩=some (aD bd)∧w'.cell? ⟨w.heap.size,0,none⟩=some (.int .i64 m.aj)∧w'.cell? ⟨w.heap.size,1,none⟩=some (.int .i64 m.next)∧w'.cell? ⟨w.heap.size,2,none⟩=some (.slice A m.aa.length c)) (first | exact zm.out | exact hc1) (first | (go_at_call 67;refine (C.out 1).mono ?_;rintro e w1 ⟨rfl,g1⟩;obtain⟨hc1,-⟩:=HW.out w1 g1;have G:=Lib.hid (HF.out _ (HN.out w1 g1));clear g1))
  go_wp2_with fail
  go_ret2
  exact G.out
end
section
variable {F0:List Nat} {w0 w:World} {R:List az}
theorem Oi (h:In F0 w0 w R) (n:Nat) (h1:1≤n) (hn:n≤1000000000) :
  Calls Tryz.prog 223 #[.slice none 0 0,.int .i64 n] w fun e w'=>∃ v,e=.returned v∧In F0 w0 w' (ay 3 1 v 0 []::R):=by
 obtain⟨i0,z,hi,hz,hzs,hs,hb⟩:∃ i0 z,Tryz.prog.info? 3=some i0∧i0.zero=some z∧z.cells.size=1∧i0.size=1∧i0.bytes=8:=by
  have dL:=oO
  cases e:Tryz.prog.info? 3 with
  | none=>rw [e] at dL;cases dL
  | some i0=>
   rw [e] at dL
   simp only [Option.map_some,Option.some.injEq,Prod.mk.injEq] at dL
   cases hz:i0.zero with
   | none=>rw [hz] at dL;simp at dL
   | some z=>
    rw [hz] at dL
    simp only [Option.map_some,Option.some.injEq] at dL
    exact⟨i0,z,rfl,hz,dL.1,dL.2.1,dL.2.2⟩
 have hcon:=Any8.slices_Grow_grow Tryz.growI i0 z hi hz (by omega) none 0 0 n [] w (Nat.le_refl _) (by omega) (by rw [hb];omega) (by omega) (by simp) (fun _=>rfl) (fun a e=>by cases e)
 refine (show Calls Tryz.prog 223 #[.slice none 0 0,.int .i64 n] w _ from hcon).mono fun e w' ⟨he,hw⟩=>?_
 have hge:=grownCap_ge w (0+n) 0 3
 have hle:=grownCap_le_maxLen w (0+n) 0 3 (by unfold maxLen;omega)
 have hsz:(([]:List Value).toArray++Builtin.zeroCells z.cells (0+n - 0)++Builtin.zeroCells z.cells (grownCap w (0+n) 0 3 - (0+n))).size=grownCap w (0+n) 0 3:=by
  simp only [Array.size_append,List.size_toArray,List.length_nil,size_zeroCells,hzs]
  omega
 have g:=(h.drewN 1).cells (([]:List Value).toArray++Builtin.zeroCells z.cells (0+n - 0)++Builtin.zeroCells z.cells (grownCap w (0+n) 0 3 - (0+n))) 3
 refine⟨_,he,?_⟩
 rw [hw]
 refine g.imp (A':=ay 3 1 (.slice (some ⟨w.heap.size,0,none⟩) 0 (grownCap w (0+n) 0 3)) 0 []) 0 rfl (ay.aA _ _ _ _ _) fun F ⟨hF,hbk⟩=>?_
 exact⟨hF,rfl,Or.inr ⟨_,_,_,rfl,Nat.zero_le _,hbk,Nat.zero_le _,hle,by rw [hsz,Nat.mul_one],by simp⟩⟩
abbrev yU:=Option Addr×Nat×List Nat
def BM (p:yU):Value:=.slice p.1 p.2.2.length p.2.1
def fQ (ps:List yU):List Nat:=(ps.map (·.2.2)).flatten
theorem yV (ps:List yU) {k:Nat} {p:yU} (h:ps[k]?=some p):fQ (ps.take (k+1))=fQ (ps.take k)++p.2.2:=by
 unfold fQ;rw [List.take_add_one,h];simp
theorem DI (ps:List yU) (k:Nat):(fQ (ps.take k)).length≤(fQ ps).length:=by
 have e:fQ ps=fQ (ps.take k)++fQ (ps.drop k):=by
  unfold fQ;conv=>lhs;rw [← List.take_append_drop k ps]
  rw [List.map_append,List.flatten_append]
 rw [e,List.length_append];omega
def Lb (ps:List yU) (q i:Value) (wr:World) (w:World):Prop:=∃ k:Nat,k≤ps.length∧i=.int .i64 k∧q=.int .i64 (fQ (ps.take k)).length∧wr=w
def Lc (ps:List yU) (pb:Nat) (F0:List Nat) (w0:World) (R:List az) (v i:Value) (wr:World):Prop:=
 ∃ k:Nat,k≤ps.length∧i=.int .i64 k∧In F0 w0 wr (ay 3 1 v (fQ (ps.take k)).length (cz (fQ (ps.take k)))::Cells pb (ps.map BM).toArray 43::R)
theorem RY {ps:List yU} {pb c:Nat} (h:In F0 w0 w (Cells pb (ps.map BM).toArray 43::R)) (hps:ps.length≤1000) (h1:1≤(fQ ps).length) (hn:(fQ ps).length≤1000000000)
  (hs:∀ p∈ps,∀ w',In F0 w0 w' R→Src w' p.1 p.2.2.length 1 (cz p.2.2)) :
  Calls Tryz.prog 159 #[.slice (some ⟨pb,0,none⟩) ps.length c] w fun e w'=>∃ v,e=.returned v∧In F0 w0 w' (ay 3 1 v (fQ ps).length (cz (fQ ps))::R):=by
 have HC:Hid (∀ w',In F0 w0 w' (Cells pb (ps.map BM).toArray 43::R)→∀ k p,ps[k]?=some p→w'.cell? ⟨pb,k,none⟩=some (BM p)):=Lib.hid fun w' h' k p hp=>cell_of (h'.block 0 rfl) (by simp [hp])
 have H:=Lib.hid h
 have zm:Hid (Lb ps (.int .i64 0) (.int .i64 0) w w):=Lib.hid ⟨0,Nat.zero_le _,rfl,by simp [fQ],rfl⟩
 have G:=Lib.hid (Oi h _ h1 hn)
 have HS:=Lib.hid hs
 have HN:=Lib.hid hn
 clear h hs h1 hn
 go_enter Tryz.func159,Tryz.ntmps159
 go_wp2_with fail
 go_loopw [3,11] (fun q i wr=>Lb ps q i wr w) (fun _ i _=>ps.length - (intOf i).toNat)
 case atStart=>exact zm.out
 case round=>
  obtain⟨k,hk,rfl,rfl,rfl⟩:=hrel
  by_cases hlt:k < ps.length
  ·obtain⟨p,hp⟩:∃ p,ps[k]?=some p:=⟨ps[k],List.getElem?_eq_getElem hlt⟩
   have c0:=HC.out wr H.out k p hp
   have HT:=Lib.hid (yV ps hp)
   have HL:=Lib.hid (DI ps (k+1))
   have hlt':(k:Int) < (ps.length:Int):=by omega
   have hb:(fQ (ps.take k)).length+p.2.2.length≤1000000000:=by
    have h1:=HL.out
    rw [HT.out,List.length_append] at h1
    have:=HN.out;omega
   have hr:Lb ps (.int .i64 (((fQ (ps.take k)).length:Int)+(p.2.2.length:Int))) (.int .i64 ((k:Int)+1)) wr wr:=⟨k+1,by omega,by go_num,by rw [HT.out,List.length_append];go_num,rfl⟩
   have HR:=Lib.hid hr
   unfold BM at c0
   clear hp hr HL HT G zm hlt
   generalize (fQ (ps.take k)).length=x at *
   generalize p.2.2.length=y at *
   have hneg:decide ((x:Int)+(y:Int) < 0)=false:=by simp;omega
   go_wp2_with fail
   go_roundw
   case rel=>exact HR.out
   case measure=>simp [intOf];omega
  ·have hge:(ps.length:Int)≤(k:Int):=by omega
   have hkl:ps.take k=ps:=List.take_of_length_le (by omega)
   rw [hkl]
   clear hlt hkl
   go_wp2_with fail
   refine G.out.mono ?_
   rintro e w1 ⟨v,rfl,g1⟩
   have HR:Hid (Lc ps pb F0 w0 R v (.int .i64 0) w1):=Lib.hid ⟨0,Nat.zero_le _,rfl,by simpa [fQ,cz] using g1⟩
   clear g1 G zm
   go_wp2_with fail
   go_loopw [6,27] (Lc ps pb F0 w0 R) (fun _ i _=>ps.length - (intOf i).toNat)
   case atStart=>exact HR.out
   case round=>
    obtain⟨j,hj,rfl,ho⟩:=hrel
    clear HR
    by_cases hlt:j < ps.length
    ·obtain⟨p,hp⟩:∃ p,ps[j]?=some p:=⟨ps[j],List.getElem?_eq_getElem hlt⟩
     have c0:=HC.out wr ho.drop j p hp
     have HT:=Lib.hid (yV ps hp)
     have HL:=Lib.hid (DI ps (j+1))
     have hlt':(j:Int) < (ps.length:Int):=by omega
     have SS:=Lib.hid (HS.out p (List.mem_of_getElem? hp) wr ho.drop.drop)
     have HO:=Lib.hid ho
     have HB:Hid ((fQ (ps.take j)).length+p.2.2.length≤1000000000):=Lib.hid (by
      have h1:=HL.out
      rw [HT.out,List.length_append] at h1
      have:=HN.out;omega)
     have HR:Hid (∀ v' w',In F0 w0 w' (ay 3 1 v' ((fQ (ps.take j)).length+p.2.2.length) (cz (fQ (ps.take j))++cz p.2.2)::Cells pb (ps.map BM).toArray 43::R)→Lc ps pb F0 w0 R v' (.int .i64 (j+1)) w'):=Lib.hid fun v' w' h'=>
      ⟨j+1,by omega,by go_num,by rw [HT.out,List.length_append,show cz (fQ (ps.take j)++p.2.2)=cz (fQ (ps.take j))++cz p.2.2 from List.map_append ..];exact h'⟩
     unfold BM at c0
     clear hp ho hlt HL
     go_wp2_with (at_builtin;refine iP rfl HO.out 0 rfl (.tmp 31) (.tmp 32) 43 (by rfl) Tryz.underlying43 oO (by decide) (by decide) (by rfl) (by rfl) SS.out (Qj _) HB.out ?_)
     intro v' w2 g2 hg
     have HX:=Lib.hid (HR.out v' w2 g2)
     clear g2 hg HR HB HO SS
     go_wp2_with fail
     go_roundw
     case rel=>exact HX.out
     case measure=>simp [intOf];omega
    ·have hge:(ps.length:Int)≤(j:Int):=by omega
     have hkl:ps.take j=ps:=List.take_of_length_le (by omega)
     rw [hkl] at ho
     have HO:=Lib.hid (ho.aI (R1:=[_,_]) [0] (by decide) rfl)
     clear ho hlt hkl
     go_wp2_with fail
     go_ret
     exact⟨_,rfl,HO.out⟩
end
end Go.Proofs.YtogclkhpbjfadaaGreat
