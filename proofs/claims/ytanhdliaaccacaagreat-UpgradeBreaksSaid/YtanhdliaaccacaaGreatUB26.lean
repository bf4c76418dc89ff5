/- .. -/
import Derived.Test.YtanhdliaaccacaaGreatUB10
import Derived.Test.YtanhdliaaccacaaGreatUB16
import Derived.Test.YtanhdliaaccacaaGreatUB9
import Derived.BigQuiet
import Derived.Test.YtanhdliaaccacaaGreatShelfGr
namespace Go.Proofs.YtanhdliaaccacaaGreat
open Go.RowKit
set_option linter.unusedVariables false
set_option maxHeartbeats 64000000
set_option maxRecDepth 100000
theorem kN (n:ByteArray) (d:ae):(bH n d).1.ops≤d.ops+1:=by
 unfold bH;split
 ·have:=(Et d n n [] 0).2.2.2.2.1;omega
 ·simp
theorem yn {g:List (ae→ae×Int)} {d:ae} (hg:∀ f∈g,∀ d,(f d).1.ops≤d.ops+1):(bK g d).1.ops≤d.ops+g.length:=by
 suffices h:∀ (g:List (ae→ae×Int)) (r:ae×Int),(∀ f∈g,∀ d,(f d).1.ops≤d.ops+1)→(g.foldl bM r).1.ops≤r.1.ops+g.length from h g (d,0) hg
 intro g
 induction g with
 | nil=>intro r _;simp
 | cons f g ih=>
  intro r hg
  have h1:=ih (bM r f) (fun f' hf'=>hg f' (List.mem_cons_of_mem _ hf'))
  have h2:=hg f (by simp) r.1
  have h3:(bM r f).1.ops≤r.1.ops+1:=by unfold bM;split <;> omega
  rw [List.foldl_cons,List.length_cons];omega
theorem dx (s:Nat):(ai s).size≤maxLen:=by
 unfold ai maxLen;split
 ·exact Nat.zero_le _
 ·show 7≤_;omega
theorem Lp (d:ae) (n:ByteArray):(iy d n).isSome=(bP d.now n).isSome:=by simp [iy]
section
variable {F0:List Nat} {w0 w:World} {R:List ax} {bd:Nat} {d:ae}
theorem MR (h:In F0 w0 w R) (i:Nat) (hA:R[i]?=some (bJ bd d)) (n:ByteArray) (hn:n.size≤maxLen) :
  Calls Tryz.prog 117 #[aF bd,.string n] w fun e w'=>e=.returned (.bool (bP d.now n).isSome)∧In F0 w0 w' R:=by
 have C:=Lib.hid (wY h i hA n hn)
 have HD:=Lib.hid (Lp d n)
 have HQ:Hid (∃ q,(bP d.now n).isSome=q):=Lib.hid ⟨_,rfl⟩
 clear h hA
 go_enter Tryz.func117,Tryz.ntmps117
 go_wp2_with fail
 refine C.out.mono ?_
 rintro e w1 ⟨v,rfl,g⟩
 have G:=Lib.hid g.drop
 clear g C
 rw [HD.out]
 obtain⟨q,hq⟩:=HQ.out
 rw [hq]
 have HB:=Lib.hid hq
 clear hq HQ HD
 go_wp2_with fail
 go_ret
 exact⟨by rw [HB.out];rfl,G.out⟩
theorem zR (h:In F0 w0 w R) (i:Nat) (hA:R[i]?=some (bJ bd d)) (ho:d.ops≤100000000) (n:ByteArray) (hn:n.size≤maxLen) :
  Calls Tryz.prog 193 #[aF bd,.string n] w fun e w'=>e=.returned (.int .i64 (bH n d).2)∧In F0 w0 w' (R.set i (bJ bd (bH n d).1)):=by
 have C:=Lib.hid (MR h i hA n hn)
 have C2:=Lib.hid (fun w' (h':In F0 w0 w' R)=>yg h' i hA ho n hn)
 cases hq:(bP d.now n).isSome with
 | false=>
  have HE:Hid (bH n d=(d,0)):=Lib.hid (by unfold bH;rw [hq];rfl)
  have HS:=Lib.hid (pX hA)
  rw [hq] at C
  clear h hA hq
  go_enter Tryz.func193,Tryz.ntmps193
  go_wp2_with fail
  refine C.out.mono ?_
  rintro e w1 ⟨rfl,g⟩
  have G:=Lib.hid g
  clear g C C2
  go_wp2_with fail
  go_ret
  exact⟨by rw [HE.out];rfl,by rw [HE.out,HS.out];exact G.out⟩
 | true=>
  have HE:Hid (bH n d=cO d n):=Lib.hid (by unfold bH;rw [hq];rfl)
  rw [hq] at C
  clear h hA hq
  go_enter Tryz.func193,Tryz.ntmps193
  go_wp2_with fail
  refine C.out.mono ?_
  rintro e w1 ⟨rfl,g⟩
  have K:=Lib.hid (C2.out w1 g)
  clear g C C2
  go_wp2_with fail
  refine K.out.mono ?_
  rintro e w2 ⟨rfl,g⟩
  have G:=Lib.hid g
  clear g K
  go_wp2_with fail
  go_ret
  exact⟨by rw [HE.out];rfl,by rw [HE.out];exact G.out⟩
/-! The closures of begin. -/
theorem Ym (h:In F0 w0 w R) (i:Nat) (hA:R[i]?=some (bJ bd d)) (ho:d.ops≤100000000) (n:ByteArray) (hn:n.size≤maxLen) {db nb:Nat} (j k:Nat) (hj:R[j]?=some (Cells db #[aF bd] 36)) (hk:R[k]?=some (Cells nb #[.string n] 9)) :
  Calls Tryz.prog 192 #[.pointer (some ⟨db,0,none⟩),.pointer (some ⟨nb,0,none⟩)] w fun e w'=>e=.returned (.int .i64 (bH n d).2)∧In F0 w0 w' (R.set i (bJ bd (bH n d).1)):=by
 have c0:w.cell? ⟨db,0,none⟩=some (aF bd):=cell_of (h.block j hj) rfl
 have c1:w.cell? ⟨nb,0,none⟩=some (.string n):=cell_of (h.block k hk) rfl
 have C:=Lib.hid (zR h i hA ho n hn)
 clear h hA hj hk
 go_enter Tryz.func192,Tryz.ntmps192
 go_wp2_with fail
 refine C.out.mono ?_
 rintro e w1 ⟨rfl,g⟩
 have G:=Lib.hid g
 clear g C
 go_wp2_with fail
 go_ret
 exact⟨rfl,G.out⟩
theorem Yn (h:In F0 w0 w R) (i:Nat) (hA:R[i]?=some (bJ bd d)) (ho:d.ops≤100000000) (n:ByteArray) (hn:n.size≤maxLen) {db nb:Nat} (j k:Nat) (hj:R[j]?=some (Cells db #[aF bd] 36)) (hk:R[k]?=some (Cells nb #[.string n] 9)) :
  Calls Tryz.prog 194 #[.pointer (some ⟨db,0,none⟩),.pointer (some ⟨nb,0,none⟩)] w fun e w'=>e=.returned (.int .i64 (aI d n []).2)∧In F0 w0 w' (R.set i (bJ bd (aI d n []).1)):=by
 have c0:w.cell? ⟨db,0,none⟩=some (aF bd):=cell_of (h.block j hj) rfl
 have c1:w.cell? ⟨nb,0,none⟩=some (.string n):=cell_of (h.block k hk) rfl
 have C:=Lib.hid (Cn h i hA ho n hn)
 clear h hA hj hk
 go_enter Tryz.func194,Tryz.ntmps194
 go_wp2_with fail
 refine C.out.mono ?_
 rintro e w1 ⟨rfl,g⟩
 have G:=Lib.hid g
 clear g C
 go_wp2_with fail
 go_ret
 exact⟨rfl,G.out⟩
theorem qF (d:ae) (n:ByteArray) (b:List UInt8):(aI d n b).1.ops≤d.ops+1:=by have:=(Et d n n b 0).1;omega
theorem fP (d:ae) (n:ByteArray):(aW d n).1.ops≤d.ops+1:=by have:=(Et d n n [] 0).2.1;omega
theorem IW (d:ae) (n m:ByteArray):(bZ d n m).1.ops≤d.ops+1:=by have:=(Et d n m [] 0).2.2.2.1;omega
theorem tJ (d:ae):(bF d).1.ops≤d.ops+1:=by have:=(Et d ByteArray.empty ByteArray.empty [] 0).2.2.2.2.2;omega
theorem rH (s:Nat) (d:ae):(dM s d).1.ops≤d.ops+2:=by
 have h1:=kN (ai s) d
 have h2:=qF (bH (ai s) d).1 (ai s) []
 unfold dM bM;split
 ·show (aI (bH (ai s) d).1 (ai s) []).1.ops≤_;omega
 ·omega
theorem MS (h:In F0 w0 w R) (i:Nat) (hA:R[i]?=some (bJ bd d)) (ho:d.ops≤99999990) (s:Nat) (hs:s < 4611686018427387904) :
  Calls Tryz.prog 120 #[aF bd,.int .i64 s] w fun e w'=>e=.returned (.int .i64 (dM s d).2)∧In F0 w0 w' (R.set i (bJ bd (dM s d).1)):=by
 have hi:=(List.getElem?_eq_some_iff.1 hA).1
 have h1:=h.cells #[aF bd] 36
 have C1:=Lib.hid (pF h1 s hs)
 have Ct:=Lib.hid (fun x:ax=>(show (R.set i x)[i]?=some x by rw [List.getElem?_set_self hi]))
 have HD:=Lib.hid (show R.set i (bJ bd d)=R from pX hA)
 have hnm:=dx s
 have HFD:Hid (bK [bH (ai s),fun d=>aI d (ai s) []] d=dM s d):=Lib.hid rfl
 have lV:∀ args w',(callFunc 192 args).run Tryz.prog w'=.ok (.enter 192 args) w':=enters_of Tryz.func192 (by kernel_rfl) rfl
 have lW:∀ args w',(callFunc 194 args).run Tryz.prog w'=.ok (.enter 194 args) w':=enters_of Tryz.func194 (by kernel_rfl) rfl
 have xL:=Lib.hid (And.intro lV lW)
 clear h h1 lV lW
 generalize ai s=n at *
 go_enter Tryz.func120,Tryz.ntmps120
 go_wp2_with fail
 refine C1.out.mono ?_
 rintro e w1 ⟨rfl,g1⟩
 have g2:=g1.cells #[.string n] 9
 have g3:=g2.cells #[.func (.func 192) #[] #[.pointer (some ⟨w.heap.size,0,none⟩),.pointer (some ⟨w1.heap.size,0,none⟩)],.func (.func 194) #[] #[.pointer (some ⟨w.heap.size,0,none⟩),.pointer (some ⟨w1.heap.size,0,none⟩)]] 79
 simp only [World.size_alloc] at g3
 have K:=Hw (fun d'=>Cells (w1.heap.size+1) #[.func (.func 192) #[] #[.pointer (some ⟨w.heap.size,0,none⟩),.pointer (some ⟨w1.heap.size,0,none⟩)],.func (.func 194) #[] #[.pointer (some ⟨w.heap.size,0,none⟩),.pointer (some ⟨w1.heap.size,0,none⟩)]] 79::Cells w1.heap.size #[.string n] 9::Cells w.heap.size #[aF bd] 36::R.set i (bJ bd d'))
  [bH n,fun d=>aI d n []] [(192,#[.pointer (some ⟨w.heap.size,0,none⟩),.pointer (some ⟨w1.heap.size,0,none⟩)]),(194,#[.pointer (some ⟨w.heap.size,0,none⟩),.pointer (some ⟨w1.heap.size,0,none⟩)])] rfl (by simp) d (w1.heap.size+1) 2
  (w:=(w1.alloc (.cells #[.string n] 9)).alloc (.cells #[.func (.func 192) #[] #[.pointer (some ⟨w.heap.size,0,none⟩),.pointer (some ⟨w1.heap.size,0,none⟩)],.func (.func 194) #[] #[.pointer (some ⟨w.heap.size,0,none⟩),.pointer (some ⟨w1.heap.size,0,none⟩)]] 79))
  (fun s' w' h' j v hv=>cell_of (h'.block 0 rfl) (by rw [← hv];rcases j with _ | _ | j <;> simp [Ez]))
  (fun f hf=>by
   simp only [List.mem_cons,List.not_mem_nil,or_false] at hf
   rcases hf with rfl | rfl
   ·exact xL.out.1
   ·exact xL.out.2)
  (fun k f gi hf hg w' h0 h'=>by
   have hops:(bK (([bH n,fun d=>aI d n []]:List (ae→ae×Int)).take k) d).1.ops≤100000000:=by
    have:=yn (g:=([bH n,fun d=>aI d n []]:List (ae→ae×Int)).take k) (d:=d) (fun f hf d=>by
     have:=List.mem_of_mem_take hf
     simp only [List.mem_cons,List.not_mem_nil,or_false] at this
     rcases this with rfl | rfl
     ·exact kN n d
     ·exact qF d n [])
    have h2:(([bH n,fun d=>aI d n []]:List (ae→ae×Int)).take k).length≤2:=by rw [List.length_take];exact Nat.min_le_right _ _
    omega
   generalize bK (([bH n,fun d=>aI d n []]:List (ae→ae×Int)).take k) d=r at *
   rcases k with _ | _ | k
   ·cases hf;cases hg
    have:=Ym h' (i+3) (Ct.out _) hops n hnm 2 1 rfl rfl
    simpa [List.set_set] using this
   ·cases hf;cases hg
    have:=Yn h' (i+3) (Ct.out _) hops n hnm 2 1 rfl rfl
    simpa [List.set_set] using this
   ·simp at hf) (by rw [HD.out];exact g3)
 have KH:=Lib.hid K
 clear K g1 g2 g3 C1 hA hi Ct HD xL
 go_wp2_with fail
 refine KH.out.mono ?_
 rintro e w2 ⟨rfl,g4⟩
 rw [HFD.out] at g4 ⊢
 have G:=Lib.hid g4.drop.drop.drop
 clear g4 KH
 go_wp2_with fail
 go_ret
 exact⟨rfl,G.out⟩
end
theorem oU:bG.size≤maxLen:=by show 1≤maxLen;unfold maxLen;omega
theorem nK:az.size≤maxLen:=by show 5≤maxLen;unfold maxLen;omega
section
variable {F0:List Nat} {w0 w:World} {R:List ax} {bd:Nat} {d:ae}
theorem Vq (h:In F0 w0 w R) (i:Nat) (hA:R[i]?=some (bJ bd d)) (ho:d.ops≤100000000) {db:Nat} (j:Nat) (hj:R[j]?=some (Cells db #[aF bd] 36)) :
  Calls Tryz.prog 197 #[.pointer (some ⟨db,0,none⟩)] w fun e w'=>e=.returned (.int .i64 (bH az d).2)∧In F0 w0 w' (R.set i (bJ bd (bH az d).1)):=by
 have c0:w.cell? ⟨db,0,none⟩=some (aF bd):=cell_of (h.block j hj) rfl
 have C:=Lib.hid (zR h i hA ho az nK)
 clear h hA hj
 go_enter Tryz.func197,Tryz.ntmps197
 go_wp2_with fail
 refine C.out.mono ?_
 rintro e w1 ⟨rfl,g⟩
 have G:=Lib.hid g
 clear g C
 go_wp2_with fail
 go_ret
 exact⟨rfl,G.out⟩
theorem Vr (h:In F0 w0 w R) (i:Nat) (hA:R[i]?=some (bJ bd d)) (ho:d.ops≤100000000) {db nb:Nat} (j k l:Nat) (hij:l≠i) (hj:R[j]?=some (Cells db #[aF bd] 36))
  {a:Option Addr} {c:Nat} {bs:List UInt8} (hk:R[k]?=some (Cells nb #[.slice a bs.length c] 65)) (hB:R[l]?=some (ay 5 1 (.slice a bs.length c) bs.length (eB bs))) (hm:bs.length≤10000000) :
  Calls Tryz.prog 198 #[.pointer (some ⟨db,0,none⟩),.pointer (some ⟨nb,0,none⟩)] w fun e w'=>e=.returned (.int .i64 (aI d az bs).2)∧In F0 w0 w' (R.set i (bJ bd (aI d az bs).1)):=by
 have c0:w.cell? ⟨db,0,none⟩=some (aF bd):=cell_of (h.block j hj) rfl
 have c1:w.cell? ⟨nb,0,none⟩=some (.slice a bs.length c):=cell_of (h.block k hk) rfl
 have C:=Lib.hid (uz h i hA ho az nK l hij hB hm)
 clear h hA hj hk hB
 go_enter Tryz.func198,Tryz.ntmps198
 go_wp2_with fail
 refine C.out.mono ?_
 rintro e w1 ⟨rfl,g⟩
 have G:=Lib.hid g
 clear g C
 go_wp2_with fail
 go_ret
 exact⟨rfl,G.out⟩
theorem Vs (h:In F0 w0 w R) (i:Nat) (hA:R[i]?=some (bJ bd d)) (ho:d.ops≤100000000) {db:Nat} (j:Nat) (hj:R[j]?=some (Cells db #[aF bd] 36)) :
  Calls Tryz.prog 199 #[.pointer (some ⟨db,0,none⟩)] w fun e w'=>e=.returned (.int .i64 (aW d az).2)∧In F0 w0 w' (R.set i (bJ bd (aW d az).1)):=by
 have c0:w.cell? ⟨db,0,none⟩=some (aF bd):=cell_of (h.block j hj) rfl
 have C:=Lib.hid (oQ h i hA ho az nK)
 clear h hA hj
 go_enter Tryz.func199,Tryz.ntmps199
 go_wp2_with fail
 refine C.out.mono ?_
 rintro e w1 ⟨rfl,g⟩
 have G:=Lib.hid g
 clear g C
 go_wp2_with fail
 go_ret
 exact⟨rfl,G.out⟩
theorem Vt (h:In F0 w0 w R) (i:Nat) (hA:R[i]?=some (bJ bd d)) (ho:d.ops≤100000000) {db:Nat} (j:Nat) (hj:R[j]?=some (Cells db #[aF bd] 36)) :
  Calls Tryz.prog 200 #[.pointer (some ⟨db,0,none⟩)] w fun e w'=>e=.returned (.int .i64 (bZ d az bG).2)∧In F0 w0 w' (R.set i (bJ bd (bZ d az bG).1)):=by
 have c0:w.cell? ⟨db,0,none⟩=some (aF bd):=cell_of (h.block j hj) rfl
 have C:=Lib.hid (NW h i hA ho az bG nK oU)
 clear h hA hj
 go_enter Tryz.func200,Tryz.ntmps200
 go_wp2_with fail
 refine C.out.mono ?_
 rintro e w1 ⟨rfl,g⟩
 have G:=Lib.hid g
 clear g C
 go_wp2_with fail
 go_ret
 exact⟨rfl,G.out⟩
theorem yU (m:cZ) (d:ae):bK [bH az,fun d=>aI d az (aj (dP m)),fun d=>aW d az,fun d=>bZ d az bG] d=eY m d:=rfl
theorem BI (m:cZ) (d:ae):(eY m d).1.ops≤d.ops+4:=by
 have h:=yn (g:=[bH az,fun d=>aI d az (aj (dP m)),fun d=>aW d az,fun d=>bZ d az bG]) (d:=d) (fun f hf d=>by
  simp only [List.mem_cons,List.not_mem_nil,or_false] at hf
  rcases hf with rfl | rfl | rfl | rfl
  ·exact kN _ d
  ·exact qF d _ _
  ·exact fP d _
  ·exact IW d _ _)
 rw [yU] at h
 exact h
theorem oV (m:cZ) (d:ae):(aG m d).1.ops≤d.ops+5:=by
 have h1:=BI m d
 have h2:=tJ (eY m d).1
 unfold aG;split
 ·show d.ops≤_;omega
 ·split
  ·show (eY m d).1.ops≤_;omega
  ·show (bF (eY m d).1).1.ops≤_;omega
theorem BJ (h:In F0 w0 w R) (i:Nat) (hA:R[i]?=some (bJ bd d)) (ho:d.ops≤99999990) (m:cZ) {A:Option Addr} {c:Nat} (hs:NJ F0 w0 R A m.aa) (hn:m.aa.length≤1000000000) :
  Calls Tryz.prog 125 #[aF bd,iJ m A c] w fun e w'=>e=.returned (.tuple #[.bool (aG m d).2.1,.int .i64 (aG m d).2.2])∧In F0 w0 w' (R.set i (bJ bd (aG m d).1)):=by
 have hi:=(List.getElem?_eq_some_iff.1 hA).1
 have h1:=(h.cells #[aF bd] 36).cells #[.int .i64 m.ak,.int .i64 m.next,.slice A m.aa.length c] 190
 have C1:=Uq h1 m (A:=A) (c:=c) (fun w' h'=>hs w' h'.drop.drop) hn
 simp only [World.size_alloc] at C1
 have HD:=Lib.hid (show R.set i (bJ bd d)=R from pX hA)
 have Ct:=Lib.hid (fun x:ax=>(show (R.set i x)[i]?=some x by rw [List.getElem?_set_self hi]))
 have K1:=Lib.hid C1
 clear h h1 hs C1 hA
 by_cases hm:fJ m=false
 ·have HF:Hid (aG m d=(d,false,1)):=Lib.hid (by unfold aG;rw [if_pos hm])
  have HE:Hid (og m=([],1)):=Lib.hid (by unfold og;rw [hm];rfl)
  clear hm
  unfold iJ at K1 ⊢
  go_enter Tryz.func125,Tryz.ntmps125
  go_wp2_with fail
  refine K1.out.mono ?_
  rintro e w1 ⟨v,rfl,g1⟩
  have G:=Lib.hid g1.drop.drop.drop
  obtain⟨F1,r1⟩:=g1.get 0 rfl
  obtain⟨a,c1,rfl,-,-,-⟩:=r1.shape
  rw [HE.out]
  clear g1 r1 K1 Ct
  go_wp2_with fail
  go_ret2
  exact⟨by rw [HF.out];rfl,by rw [HF.out,HD.out];exact G.out.alloc _⟩
 have hm':fJ m=true:=by simpa using hm
 have Xv:=(bQ.1 hm').1
 have HE:Hid (og m=(aj (dP m),0)):=Lib.hid (by unfold og;rw [if_pos hm'])
 have HL:Hid ((aj (dP m)).length≤10000000):=Lib.hid (by rw [dJ,show (dP m).body=jD m from rfl,lJ];omega)
 have HFR:=Lib.hid (yU m d)
 have HFO:=Lib.hid (BI m d)
 have hC:aG m d=if (eY m d).2≠0 then ((eY m d).1,false,(eY m d).2) else ((bF (eY m d).1).1,true,(bF (eY m d).1).2):=by unfold aG;rw [if_neg hm]
 have HC:=Lib.hid hC
 have lV:∀ args w',(callFunc 197 args).run Tryz.prog w'=.ok (.enter 197 args) w':=enters_of Tryz.func197 (by kernel_rfl) rfl
 have lW:∀ args w',(callFunc 198 args).run Tryz.prog w'=.ok (.enter 198 args) w':=enters_of Tryz.func198 (by kernel_rfl) rfl
 have uJ:∀ args w',(callFunc 199 args).run Tryz.prog w'=.ok (.enter 199 args) w':=enters_of Tryz.func199 (by kernel_rfl) rfl
 have MU:∀ args w',(callFunc 200 args).run Tryz.prog w'=.ok (.enter 200 args) w':=enters_of Tryz.func200 (by kernel_rfl) rfl
 have xL:=Lib.hid (And.intro lV (And.intro lW (And.intro uJ MU)))
 have HI:Hid (∀ (k:Nat) (f:ae→ae×Int),[bH az,fun d=>aI d az (aj (dP m)),fun d=>aW d az,fun d=>bZ d az bG][k]?=some f→∀ d',d'.ops≤99999990+k→(f d').1.ops≤99999990+(k+1)):=Lib.hid fun k f hf d' hd'=>by
  rcases k with _ | _ | _ | _ | k
  ·cases hf;have:=kN az d';omega
  ·cases hf;have:=qF d' az (aj (dP m));simp only;omega
  ·cases hf;have:=fP d' az;simp only;omega
  ·cases hf;have:=IW d' az bG;simp only;omega
  ·simp at hf
 clear hm hm' Xv lV lW uJ MU hC
 unfold iJ at K1 ⊢
 go_enter Tryz.func125,Tryz.ntmps125
 go_wp2_with fail
 refine K1.out.mono ?_
 rintro e w1 ⟨v,rfl,g1⟩
 rw [HE.out] at g1 ⊢
 clear K1
 generalize hbs:aj (dP m)=bs at *
 obtain⟨F1,r1⟩:=g1.get 0 rfl
 obtain⟨a,c1,rfl,-,-,-⟩:=r1.shape
 clear r1
 have db:w1.cell? ⟨w.heap.size,0,none⟩=some (aF bd):=cell_of (g1.block 2 rfl) rfl
 have g2:=g1.cells #[.slice a bs.length c1] 65
 have g3:=g2.cells #[.func (.func 197) #[] #[.pointer (some ⟨w.heap.size,0,none⟩)],.func (.func 198) #[] #[.pointer (some ⟨w.heap.size,0,none⟩),.pointer (some ⟨w1.heap.size,0,none⟩)],.func (.func 199) #[] #[.pointer (some ⟨w.heap.size,0,none⟩)],.func (.func 200) #[] #[.pointer (some ⟨w.heap.size,0,none⟩)]] 79
 simp only [World.size_alloc] at g3
 have KK:=AR (fun k d'=>d'.ops≤99999990+k) (fun d'=>Cells w1.heap.size #[.slice a bs.length c1] 65::ay 5 1 (.slice a bs.length c1) bs.length (eB bs)::Cells (w.heap.size+1) #[.int .i64 m.ak,.int .i64 m.next,.slice A m.aa.length c] 190::Cells w.heap.size #[aF bd] 36::R.set i (bJ bd d'))
  (w1.heap.size+1) 79 [bH az,fun d=>aI d az bs,fun d=>aW d az,fun d=>bZ d az bG]
  [(197,#[.pointer (some ⟨w.heap.size,0,none⟩)]),(198,#[.pointer (some ⟨w.heap.size,0,none⟩),.pointer (some ⟨w1.heap.size,0,none⟩)]),(199,#[.pointer (some ⟨w.heap.size,0,none⟩)]),(200,#[.pointer (some ⟨w.heap.size,0,none⟩)])] rfl (by simp) d 4
  (w:=(w1.alloc (.cells #[.slice a bs.length c1] 65)).alloc (.cells #[.func (.func 197) #[] #[.pointer (some ⟨w.heap.size,0,none⟩)],.func (.func 198) #[] #[.pointer (some ⟨w.heap.size,0,none⟩),.pointer (some ⟨w1.heap.size,0,none⟩)],.func (.func 199) #[] #[.pointer (some ⟨w.heap.size,0,none⟩)],.func (.func 200) #[] #[.pointer (some ⟨w.heap.size,0,none⟩)]] 79))
  (by omega) HI.out
  (fun f hf=>by
   simp only [List.mem_cons,List.not_mem_nil,or_false] at hf
   rcases hf with rfl | rfl | rfl | rfl
   ·exact xL.out.1
   ·exact xL.out.2.1
   ·exact xL.out.2.2.1
   ·exact xL.out.2.2.2)
  (fun k f gi hf hg w' d' hI h'=>by
   rcases k with _ | _ | _ | _ | k
   ·cases hf;cases hg
    have:=Vq h' (i+5) (Ct.out _) (by omega) 4 rfl
    simpa [List.set_set] using this
   ·cases hf;cases hg
    have:=Vr h' (i+5) (Ct.out _) (by omega) 4 1 2 (by omega) rfl rfl rfl HL.out
    simpa [List.set_set] using this
   ·cases hf;cases hg
    have:=Vs h' (i+5) (Ct.out _) (by omega) 4 rfl
    simpa [List.set_set] using this
   ·cases hf;cases hg
    have:=Vt h' (i+5) (Ct.out _) (by omega) 4 rfl
    simpa [List.set_set] using this
   ·simp at hf) (by rw [HD.out];exact g3)
 rw [HFR.out] at KK
 have KH:=Lib.hid KK
 clear KK g1 g2 g3 HD xL HI HL HE HFR
 by_cases hz:(eY m d).2=0
 ·have HC2:Hid (aG m d=((bF (eY m d).1).1,true,(bF (eY m d).1).2)):=Lib.hid (by rw [HC.out,if_neg (by simpa using hz)])
  have HZ:=Lib.hid hz
  clear hz HC
  go_wp2_with fail
  refine KH.out.mono ?_
  rintro e w2 ⟨rfl,g4⟩
  rw [HZ.out]
  have db2:w2.cell? ⟨w.heap.size,0,none⟩=some (aF bd):=cell_of (g4.block 4 rfl) rfl
  have C5:=Lib.hid (vK g4 (i+5) (Ct.out _) (by have:=HFO.out;omega))
  clear g4 KH db
  go_wp2_with fail
  refine C5.out.mono ?_
  rintro e w3 ⟨rfl,g5⟩
  have G:=Lib.hid g5.drop.drop.drop.drop.drop
  clear g5 C5
  go_wp2_with fail
  go_ret2
  exact⟨by rw [HC2.out];rfl,by rw [HC2.out];have:=G.out;rwa [List.set_set] at this⟩
 ·have HC2:Hid (aG m d=((eY m d).1,false,(eY m d).2)):=Lib.hid (by rw [HC.out,if_pos (by simpa using hz)])
  have q:((eY m d).2 != 0)=true:=by rw [bne_iff_ne];exact hz
  have HZ:=Lib.hid (show ∃ x,(eY m d).2=x from ⟨_,rfl⟩)
  clear hz HC
  go_wp2_with fail
  refine KH.out.mono ?_
  rintro e w2 ⟨rfl,g4⟩
  have G:=Lib.hid g4.drop.drop.drop.drop.drop
  clear g4 KH
  go_wp2_with fail
  go_ret2
  exact⟨by rw [HC2.out];rfl,by rw [HC2.out];exact G.out⟩
end
def xu (bd:Nat) (l:bI) (v:Value):Array Value:=#[aF bd,.int .i64 l.size,.int .i64 l.m.ak,.int .i64 l.m.next,v,.bool l.loose]
def ib (l:bI):Prop:=16≤l.size∧l.size≤1048576∧fJ l.m=true
def eH (lb bd:Nat) (l:bI):ax:=fun w F=>∃ v,Star [Cells lb (xu bd l v) 197,ay 3 1 v l.m.aa.length (cB l.m.aa)] w F
theorem rJ (lb bd:Nat) (l:bI) (v:Value):∀ A∈[Cells lb (xu bd l v) 197,ay 3 1 v l.m.aa.length (cB l.m.aa)],bD A:=by
 intro A hA
 simp only [List.mem_cons,List.not_mem_nil,or_false] at hA
 rcases hA with rfl | rfl
 ·exact Cells.aB _ _ _
 ·exact ay.aB _ _ _ _ _
theorem eH.aB (lb bd:Nat) (l:bI):bD (eH lb bd l):=
 ⟨fun ⟨v,h⟩ hk=>⟨v,(bD.star (rJ lb bd l v)).keep h hk⟩,fun ⟨v,h⟩=>(bD.star (rJ lb bd l v)).lt h⟩
section
variable {F0:List Nat} {w0 w:World} {R:List ax} {bd lb:Nat} {d:ae} {l:bI}
theorem In.lX (h:In F0 w0 w (eH lb bd l::R)):∃ a c,In F0 w0 w (ay 3 1 (.slice a l.m.aa.length c) l.m.aa.length (cB l.m.aa)::Cells lb (xu bd l (.slice a l.m.aa.length c)) 197::R):=by
 obtain⟨v,h1⟩:=h.ex (G:=fun v=>Star [Cells lb (xu bd l v) 197,ay 3 1 v l.m.aa.length (cB l.m.aa)]) 0 rfl (fun v=>bD.star (rJ lb bd l v))
 have h2:=h1.split (A:=Cells lb (xu bd l v) 197) (B:=ay 3 1 v l.m.aa.length (cB l.m.aa)) 0 rfl (Cells.aB _ _ _) (ay.aB _ _ _ _ _)
 obtain⟨F,hr⟩:=h2.get 0 rfl
 obtain⟨a,c,rfl,-,-,-⟩:=hr.shape
 exact⟨a,c,h2⟩
theorem In.nL {l':bI} {v:Value} (h:In F0 w0 w (ay 3 1 v l'.m.aa.length (cB l'.m.aa)::Cells lb (xu bd l' v) 197::R)):In F0 w0 w (eH lb bd l'::R):=
 h.fold (C:=eH lb bd l') 0 rfl (eH.aB _ _ _) (fun F hF=>⟨v,hF⟩)
theorem BK (h:In F0 w0 w (eH lb bd l::bJ bd d::R)) (ho:d.ops≤100000000) :
  Calls Tryz.prog 138 #[aF lb] w fun e w'=>e=.returned (.int .i64 (aY (d,l)).2)∧In F0 w0 w' (eH lb bd (aY (d,l)).1.2::bJ bd (aY (d,l)).1.1::R):=by
 obtain⟨a,c,h1⟩:=h.lX
 have c5:w.cell? ⟨lb,5,none⟩=some (.bool l.loose):=cell_of (h1.block 1 rfl) rfl
 have c0:w.cell? ⟨lb,0,none⟩=some (aF bd):=cell_of (h1.block 1 rfl) rfl
 have C:=Lib.hid (vK h1 2 rfl ho)
 cases hq:l.loose with
 | false=>
  have HE:Hid (aY (d,l)=((d,l),0)):=Lib.hid (by unfold aY;rw [hq];rfl)
  have H:=Lib.hid h
  rw [hq] at c5
  clear h h1 C hq
  go_enter Tryz.func138,Tryz.ntmps138
  go_wp2_with fail
  go_ret
  exact⟨by rw [HE.out];rfl,by rw [HE.out];exact H.out⟩
 | true=>
  have HE:Hid (aY (d,l)=(((bF d).1,{ l with loose:=decide ((bF d).2≠0) }),(bF d).2)):=Lib.hid (by unfold aY;rw [hq];rfl)
  rw [hq] at c5
  clear h h1 hq
  go_enter Tryz.func138,Tryz.ntmps138
  go_wp2_with fail
  refine C.out.mono ?_
  rintro e w1 ⟨rfl,g⟩
  have d5:w1.cell? ⟨lb,5,none⟩=some (.bool l.loose):=cell_of (g.block 1 rfl) rfl
  have f5:w1.frozen? ⟨lb,5,none⟩=false:=aK (g.block 1 rfl)
  have g2:=g.put (b:=lb) 1 rfl 5 (.bool ((bF d).2 != 0))
  have g3:In F0 w0 (w1.setCell ⟨lb,5,none⟩ (.bool ((bF d).2 != 0))) (eH lb bd { l with loose:=decide ((bF d).2≠0) }::bJ bd (bF d).1::R):=
   In.nL (l':={ l with loose:=decide ((bF d).2≠0) }) (v:=.slice a l.m.aa.length c) (by
    have e:((bF d).2 != 0)=decide ((bF d).2≠0):=by simp [bne,Bool.beq_eq_decide_eq]
    unfold xu
    rw [← e]
    exact g2)
  have G:=Lib.hid g3
  have HX:Hid (∃ x,(bF d).2=x):=Lib.hid ⟨_,rfl⟩
  clear g g2 g3 C c0 c5
  go_wp2_with fail
  go_ret
  exact⟨by rw [HE.out];rfl,by rw [HE.out];exact G.out⟩
theorem MV (h:In F0 w0 w (eH lb bd l::bJ bd d::R)) (n:ByteArray) (hn:n.size≤maxLen) :
  Calls Tryz.prog 141 #[aF lb,.string n] w fun e w'=>e=.returned (.int .i64 (bytesD d n))∧In F0 w0 w' (eH lb bd l::bJ bd d::R):=by
 obtain⟨a,c,h1⟩:=h.lX
 have c0:w.cell? ⟨lb,0,none⟩=some (aF bd):=cell_of (h1.block 1 rfl) rfl
 have C:=Lib.hid (wY h 1 rfl n hn)
 clear h h1
 go_enter Tryz.func141,Tryz.ntmps141
 go_wp2_with fail
 refine C.out.mono ?_
 rintro e w1 ⟨v,rfl,g⟩
 obtain⟨F1,r1⟩:=g.get 0 rfl
 obtain⟨a1,c1,rfl,-,-,-⟩:=r1.shape
 have G:=Lib.hid g.drop
 have HX:Hid (((iy d n).getD []).length=bytesD d n):=Lib.hid rfl
 rw [HX.out]
 clear g r1 C
 go_wp2_with fail
 go_ret
 exact⟨rfl,G.out⟩
theorem Si (h:In F0 w0 w (eH lb bd l::R)) (x y:Nat) (hx:x≤1000000000) (hy:y≤1000000000) (hl:l.size≤1048576) :
  Calls Tryz.prog 140 #[aF lb,.int .i64 x,.int .i64 y] w fun e w'=>e=.returned (.bool (lI l x y))∧w'=w:=by
 obtain⟨a,c,h1⟩:=h.lX
 have c1:w.cell? ⟨lb,1,none⟩=some (.int .i64 l.size):=cell_of (h1.block 1 rfl) rfl
 clear h h1
 by_cases k:x=0
 ·have HE:Hid (lI l x y=true):=Lib.hid (by unfold lI;simp [k])
  subst k
  go_enter Tryz.func140,Tryz.ntmps140
  go_wp2_with fail
  go_ret
  exact⟨by rw [HE.out];rfl,rfl⟩
 ·have q0:decide ((x:Int)=0)=false:=by simp;omega
  have q1:((x:Int) == 0)=false:=by simp;omega
  have HE:Hid (lI l x y=decide ((x:Int)+y≤l.size)):=Lib.hid (by unfold lI;rw [decide_eq_decide];omega)
  clear k
  go_enter Tryz.func140,Tryz.ntmps140
  go_wp2_with fail
  go_ret
  exact⟨by rw [HE.out];rfl,rfl⟩
theorem yo (h:In F0 w0 w (eH lb bd l::R)) (hl:ib l) :
  Calls Tryz.prog 142 #[aF lb] w fun e w'=>e=.returned (.string (bz l))∧In F0 w0 w' (eH lb bd l::R):=by
 obtain⟨a,c,h1⟩:=h.lX
 have hm:=(bQ.1 hl.2.2).1
 obtain⟨s,hs⟩:∃ s,l.m.aa[l.m.aa.length - 1]?=some s:=⟨l.m.aa[l.m.aa.length - 1]'(by omega),List.getElem?_eq_getElem _⟩
 have hsm:=dY hl.2.2 (List.mem_of_getElem? hs)
 have HL:Hid (ai s=bz l):=Lib.hid (by
  unfold bz
  rw [List.getLastD_eq_getLast?,List.getLast?_eq_getElem?,hs];rfl)
 obtain⟨F1,r1⟩:=h1.get 0 rfl
 obtain⟨g,rfl,cs⟩:=r1.at.2 (l.m.aa.length - 1) (.int .i64 s) (by simp [cB,hs])
 have HP:Hid (∀ w',In F0 w0 w' (ay 3 1 (.slice (some ⟨g,0,none⟩) l.m.aa.length c) l.m.aa.length (cB l.m.aa)::Cells lb (xu bd l (.slice (some ⟨g,0,none⟩) l.m.aa.length c)) 197::R) →
   (w'.cell? ⟨lb,4,none⟩=some (.slice (some ⟨g,0,none⟩) l.m.aa.length c)∧w'.cell? ⟨g,l.m.aa.length - 1,none⟩=some (.int .i64 s))∧In F0 w0 w' (eH lb bd l::R)):=Lib.hid fun w' h'=>by
  obtain⟨F2,r2⟩:=h'.get 0 rfl
  obtain⟨g2,e2,cs2⟩:=r2.at.2 (l.m.aa.length - 1) (.int .i64 s) (by simp [cB,hs])
  cases e2
  exact⟨⟨cell_of (h'.block 1 rfl) rfl,cs2⟩,h'.nL⟩
 have c4:w.cell? ⟨lb,4,none⟩=some (.slice (some ⟨g,0,none⟩) l.m.aa.length c):=cell_of (h1.block 1 rfl) rfl
 have C:=Lib.hid (fun n=>pF (h1.drewN n) s (by omega))
 have HW:=Lib.hid (HP.out w h1).1
 have hn1:1≤l.m.aa.length:=hm.2.2.1
 have hn2:l.m.aa.length≤64:=hm.2.2.2.1
 clear h h1 hl hm hs hsm r1
 generalize l.m.aa.length=n at *
 obtain⟨k,hk⟩:∃ k,n - 1=k:=⟨n - 1,rfl⟩
 rw [hk] at cs HP HW
 have hw1:IntKind.i64.wrap ((n:Int) - 1)=(k:Int):=by rw [show (n:Int) - 1=(k:Int) by omega];exact IntWalk.i64_in _ (by omega)
 have hk0:(0:Int)≤(k:Int):=by omega
 have hk1:(k:Int) < (n:Int):=by omega
 have hk2:k < n:=by omega
 clear hk hn1 hn2
 go_enter Tryz.func142,Tryz.ntmps142
 go_wp2_with fail
 go_region_held3 (fun w'=>w'.cell? ⟨lb,4,none⟩=some (.slice (some ⟨g,0,none⟩) n c)∧w'.cell? ⟨g,k,none⟩=some (.int .i64 s)) (first | exact HW.out | exact hc1) (first | (go_at_call 123;refine (C.out 1).mono ?_;rintro e w1 ⟨rfl,g1⟩;obtain⟨hc1,hfin⟩:=HP.out w1 g1;have G:=Lib.hid hfin;clear g1 hfin))
 go_wp2_with fail
 go_ret
 exact⟨by rw [HL.out];rfl,G.out⟩
end
section
variable {F0:List Nat} {w0 w:World} {R:List ax} {bd lb:Nat} {d:ae} {l:bI}
abbrev mf (A:Option Addr) (c:Nat) (s:List Nat):ax:=ay 3 1 (.slice A s.length c) s.length (cB s)
def qG (lb bd:Nat) (m:cZ) (A:Option Addr) (c:Nat) (s:DL) (F0:List Nat) (w0:World) (R:List ax) (e:Ending) (w':World):Prop:=
 e=.returned (.tuple #[.bool (dD m s).2.1,.int .i64 (dD m s).2.2])∧In F0 w0 w' (eH lb bd (dD m s).1.2::bJ bd (dD m s).1.1::R) ∧
  ((dD m s).2.1=false→In F0 w0 w' (eH lb bd (dD m s).1.2::bJ bd (dD m s).1.1::mf A c m.aa::R))
theorem Vu (m:cZ) {A:Option Addr} {c:Nat} (h:In F0 w0 w (eH lb bd l::bJ bd d::mf A c m.aa::R)) (ho:d.ops≤99999990) (hn:m.aa.length≤1000000000) :
  Calls Tryz.prog 183 #[aF lb,iJ m A c] w (qG lb bd m A c (d,l) F0 w0 R):=by
 obtain⟨a,ca,h1⟩:=h.lX
 have h2:=h1.cells #[.int .i64 m.ak,.int .i64 m.next,.slice A m.aa.length c] 190
 have HW:Hid (∀ w',In F0 w0 w' (Cells w.heap.size #[.int .i64 m.ak,.int .i64 m.next,.slice A m.aa.length c] 190::ay 3 1 (.slice a l.m.aa.length ca) l.m.aa.length (cB l.m.aa)::Cells lb (xu bd l (.slice a l.m.aa.length ca)) 197::bJ bd (aG m d).1::mf A c m.aa::R) →
   (w'.cell? ⟨lb,0,none⟩=some (aF bd)∧w'.cell? ⟨w.heap.size,0,none⟩=some (.int .i64 m.ak)∧w'.cell? ⟨w.heap.size,1,none⟩=some (.int .i64 m.next)∧w'.cell? ⟨w.heap.size,2,none⟩=some (.slice A m.aa.length c)) ∧
   (w'.frozen? ⟨lb,2,none⟩=false∧w'.frozen? ⟨lb,3,none⟩=false∧w'.frozen? ⟨lb,4,none⟩=false∧w'.frozen? ⟨lb,5,none⟩=false ∧
    ∃ x2 x3 x4 x5,w'.cell? ⟨lb,2,none⟩=some x2∧w'.cell? ⟨lb,3,none⟩=some x3∧w'.cell? ⟨lb,4,none⟩=some x4∧w'.cell? ⟨lb,5,none⟩=some x5)):=Lib.hid fun w' h'=>
  ⟨⟨cell_of (h'.block 2 rfl) rfl,cell_of (h'.block 0 rfl) rfl,cell_of (h'.block 0 rfl) rfl,cell_of (h'.block 0 rfl) rfl⟩,aK (h'.block 2 rfl),aK (h'.block 2 rfl),aK (h'.block 2 rfl),aK (h'.block 2 rfl),_,_,_,_,cell_of (h'.block 2 rfl) rfl,cell_of (h'.block 2 rfl) rfl,cell_of (h'.block 2 rfl) rfl,cell_of (h'.block 2 rfl) rfl⟩
 have zq:Hid ((w.alloc (.cells #[.int .i64 m.ak,.int .i64 m.next,.slice A m.aa.length c] 190)).cell? ⟨lb,0,none⟩=some (aF bd)∧(w.alloc (.cells #[.int .i64 m.ak,.int .i64 m.next,.slice A m.aa.length c] 190)).cell? ⟨w.heap.size,0,none⟩=some (.int .i64 m.ak)∧(w.alloc (.cells #[.int .i64 m.ak,.int .i64 m.next,.slice A m.aa.length c] 190)).cell? ⟨w.heap.size,1,none⟩=some (.int .i64 m.next)∧(w.alloc (.cells #[.int .i64 m.ak,.int .i64 m.next,.slice A m.aa.length c] 190)).cell? ⟨w.heap.size,2,none⟩=some (.slice A m.aa.length c)):=Lib.hid
  ⟨cell_of (h2.block 2 rfl) rfl,cell_of (h2.block 0 rfl) rfl,cell_of (h2.block 0 rfl) rfl,cell_of (h2.block 0 rfl) rfl⟩
 have C:=Lib.hid (fun n=>BJ (h2.drewN n) 3 rfl ho m (A:=A) (c:=c) (fun w' h'=>by obtain⟨F',r'⟩:=h'.get 4 rfl;exact r'.all) hn)
 have HQ:Hid (dD m (d,l)=(((aG m d).1,if (aG m d).2.1 then { l with m:=m,loose:=decide ((aG m d).2.2≠0) } else l),(aG m d).2.1,(aG m d).2.2)):=Lib.hid rfl
 have HT:Hid (∀ w',In F0 w0 w' (Cells w.heap.size #[.int .i64 m.ak,.int .i64 m.next,.slice A m.aa.length c] 190::ay 3 1 (.slice a l.m.aa.length ca) l.m.aa.length (cB l.m.aa)::Cells lb (xu bd l (.slice a l.m.aa.length ca)) 197::bJ bd (aG m d).1::mf A c m.aa::R) →
   In F0 w0 ((((w'.setCell ⟨lb,2,none⟩ (.int .i64 m.ak)).setCell ⟨lb,3,none⟩ (.int .i64 m.next)).setCell ⟨lb,4,none⟩ (.slice A m.aa.length c)).setCell ⟨lb,5,none⟩ (.bool ((aG m d).2.2 != 0)))
    (eH lb bd { l with m:=m,loose:=decide ((aG m d).2.2≠0) }::bJ bd (aG m d).1::R)):=Lib.hid fun w' h'=>by
  have e:((aG m d).2.2 != 0)=decide ((aG m d).2.2≠0):=by simp [bne,Bool.beq_eq_decide_eq]
  have g:=(((h'.put (b:=lb) 2 rfl 2 (.int .i64 m.ak)).put (b:=lb) 2 rfl 3 (.int .i64 m.next)).put (b:=lb) 2 rfl 4 (.slice A m.aa.length c)).put (b:=lb) 2 rfl 5 (.bool ((aG m d).2.2 != 0))
  have g2:=g.aL (R1:=[_,_,_,_,_]) [4,2,3] (by decide) rfl
  refine In.nL (l':={ l with m:=m,loose:=decide ((aG m d).2.2≠0) }) (v:=.slice A m.aa.length c) ?_
  unfold xu
  rw [← e]
  exact g2
 have HN:Hid (∀ w',In F0 w0 w' (Cells w.heap.size #[.int .i64 m.ak,.int .i64 m.next,.slice A m.aa.length c] 190::ay 3 1 (.slice a l.m.aa.length ca) l.m.aa.length (cB l.m.aa)::Cells lb (xu bd l (.slice a l.m.aa.length ca)) 197::bJ bd (aG m d).1::mf A c m.aa::R) →
   In F0 w0 w' (eH lb bd l::bJ bd (aG m d).1::mf A c m.aa::R)):=Lib.hid fun w' h'=>h'.drop.nL
 unfold iJ at C ⊢
 clear h h1 h2 hn ho
 cases hq:(aG m d).2.1 with
 | true=>
  have HF:Hid (∀ w',In F0 w0 w' (eH lb bd { l with m:=m,loose:=decide ((aG m d).2.2≠0) }::bJ bd (aG m d).1::R)→qG lb bd m A c (d,l) F0 w0 R (.returned (.tuple #[.bool true,.int .i64 (aG m d).2.2])) w'):=Lib.hid fun w' h'=>by
   unfold qG
   rw [HQ.out,hq]
   exact⟨rfl,h',fun e=>by cases e⟩
  rw [hq] at C
  clear HQ HN hq
  go_enter Tryz.func183,Tryz.ntmps183
  go_wp2_with fail
  go_region_held3 (fun w'=>w'.cell? ⟨lb,0,none⟩=some (aF bd)∧w'.cell? ⟨w.heap.size,0,none⟩=some (.int .i64 m.ak)∧w'.cell? ⟨w.heap.size,1,none⟩=some (.int .i64 m.next)∧w'.cell? ⟨w.heap.size,2,none⟩=some (.slice A m.aa.length c)) (first | exact zq.out | exact hc1) (first | (go_at_call 125;refine (C.out 1).mono ?_;rintro e w1 ⟨rfl,g1⟩;obtain⟨hc1,f2,f3,f4,f5,x2,x3,x4,x5,d2,d3,d4,d5⟩:=HW.out w1 g1;have G:=Lib.hid (HF.out _ (HT.out w1 g1));clear g1))
  go_wp2_with fail
  go_ret2
  exact G.out
 | false=>
  have HF:Hid (∀ w',In F0 w0 w' (eH lb bd l::bJ bd (aG m d).1::mf A c m.aa::R)→qG lb bd m A c (d,l) F0 w0 R (.returned (.tuple #[.bool false,.int .i64 (aG m d).2.2])) w'):=Lib.hid fun w' h'=>by
   unfold qG
   rw [HQ.out,hq]
   exact⟨rfl,h'.aL (R1:=[_,_,_]) [0,1] (by decide) rfl,fun _=>h'⟩
  rw [hq] at C
  clear HQ HT hq
  go_enter Tryz.func183,Tryz.ntmps183
  go_wp2_with fail
  go_region_held3 (fun w'=>w'.cell? ⟨lb,0,none⟩=some (aF bd)∧w'.cell? ⟨w.heap.size,0,none⟩=some (.int .i64 m.ak)∧w'.cell? ⟨w.heap.size,1,none⟩=some (.int .i64 m.next)∧w'.cell? ⟨w.heap.size,2,none⟩=some (.slice A m.aa.length c)) (first | exact zq.out | exact hc1) (first | (go_at_call 125;refine (C.out 1).mono ?_;rintro e w1 ⟨rfl,g1⟩;obtain⟨hc1,-⟩:=HW.out w1 g1;have G:=Lib.hid (HF.out _ (HN.out w1 g1));clear g1))
  go_wp2_with fail
  go_ret2
  exact G.out
end
section
variable {F0:List Nat} {w0 w:World} {R:List ax}
theorem Oz (h:In F0 w0 w R) (n:Nat) (h1:1≤n) (hn:n≤1000000000) :
  Calls Tryz.prog 252 #[.slice none 0 0,.int .i64 n] w fun e w'=>∃ v,e=.returned v∧In F0 w0 w' (ay 3 1 v 0 []::R):=by
 obtain⟨i0,z,hi,hz,hzs,hs,hb⟩:∃ i0 z,Tryz.prog.info? 3=some i0∧i0.zero=some z∧z.cells.size=1∧i0.size=1∧i0.bytes=8:=by
  have dK:=oN
  cases e:Tryz.prog.info? 3 with
  | none=>rw [e] at dK;cases dK
  | some i0=>
   rw [e] at dK
   simp only [Option.map_some,Option.some.injEq,Prod.mk.injEq] at dK
   cases hz:i0.zero with
   | none=>rw [hz] at dK;simp at dK
   | some z=>
    rw [hz] at dK
    simp only [Option.map_some,Option.some.injEq] at dK
    exact⟨i0,z,rfl,hz,dK.1,dK.2.1,dK.2.2⟩
 have hcon:=Any8.slices_Grow_grow Tryz.growI i0 z hi hz (by omega) none 0 0 n [] w (Nat.le_refl _) (by omega) (by rw [hb];omega) (by omega) (by simp) (fun _=>rfl) (fun a e=>by cases e)
 refine (show Calls Tryz.prog 252 #[.slice none 0 0,.int .i64 n] w _ from hcon).mono fun e w' ⟨he,hw⟩=>?_
 have hge:=grownCap_ge w (0+n) 0 3
 have hle:=grownCap_le_maxLen w (0+n) 0 3 (by unfold maxLen;omega)
 have hsz:(([]:List Value).toArray++Builtin.zeroCells z.cells (0+n - 0)++Builtin.zeroCells z.cells (grownCap w (0+n) 0 3 - (0+n))).size=grownCap w (0+n) 0 3:=by
  simp only [Array.size_append,List.size_toArray,List.length_nil,size_zeroCells,hzs]
  omega
 have g:=(h.drewN 1).cells (([]:List Value).toArray++Builtin.zeroCells z.cells (0+n - 0)++Builtin.zeroCells z.cells (grownCap w (0+n) 0 3 - (0+n))) 3
 refine⟨_,he,?_⟩
 rw [hw]
 refine g.imp (A':=ay 3 1 (.slice (some ⟨w.heap.size,0,none⟩) 0 (grownCap w (0+n) 0 3)) 0 []) 0 rfl (ay.aB _ _ _ _ _) fun F ⟨hF,hbk⟩=>?_
 exact⟨hF,rfl,Or.inr ⟨_,_,_,rfl,Nat.zero_le _,hbk,Nat.zero_le _,hle,by rw [hsz,Nat.mul_one],by simp⟩⟩
abbrev yV:=Option Addr×Nat×List Nat
def BL (p:yV):Value:=.slice p.1 p.2.2.length p.2.1
def fT (ps:List yV):List Nat:=(ps.map (·.2.2)).flatten
theorem yX (ps:List yV) {k:Nat} {p:yV} (h:ps[k]?=some p):fT (ps.take (k+1))=fT (ps.take k)++p.2.2:=by
 unfold fT;rw [List.take_add_one,h];simp
theorem DF (ps:List yV) (k:Nat):(fT (ps.take k)).length≤(fT ps).length:=by
 have e:fT ps=fT (ps.take k)++fT (ps.drop k):=by
  unfold fT;conv=>lhs;rw [← List.take_append_drop k ps]
  rw [List.map_append,List.flatten_append]
 rw [e,List.length_append];omega
def Lr (ps:List yV) (q i:Value) (wr:World) (w:World):Prop:=∃ k:Nat,k≤ps.length∧i=.int .i64 k∧q=.int .i64 (fT (ps.take k)).length∧wr=w
def Ls (ps:List yV) (pb:Nat) (F0:List Nat) (w0:World) (R:List ax) (v i:Value) (wr:World):Prop:=
 ∃ k:Nat,k≤ps.length∧i=.int .i64 k∧In F0 w0 wr (ay 3 1 v (fT (ps.take k)).length (cB (fT (ps.take k)))::Cells pb (ps.map BL).toArray 104::R)
theorem Sj {ps:List yV} {pb c:Nat} (h:In F0 w0 w (Cells pb (ps.map BL).toArray 104::R)) (hps:ps.length≤1000) (h1:1≤(fT ps).length) (hn:(fT ps).length≤1000000000)
  (hs:∀ p∈ps,∀ w',In F0 w0 w' R→Src w' p.1 p.2.2.length 1 (cB p.2.2)) :
  Calls Tryz.prog 206 #[.slice (some ⟨pb,0,none⟩) ps.length c] w fun e w'=>∃ v,e=.returned v∧In F0 w0 w' (ay 3 1 v (fT ps).length (cB (fT ps))::R):=by
 have HC:Hid (∀ w',In F0 w0 w' (Cells pb (ps.map BL).toArray 104::R)→∀ k p,ps[k]?=some p→w'.cell? ⟨pb,k,none⟩=some (BL p)):=Lib.hid fun w' h' k p hp=>cell_of (h'.block 0 rfl) (by simp [hp])
 have H:=Lib.hid h
 have zq:Hid (Lr ps (.int .i64 0) (.int .i64 0) w w):=Lib.hid ⟨0,Nat.zero_le _,rfl,by simp [fT],rfl⟩
 have G:=Lib.hid (Oz h _ h1 hn)
 have HS:=Lib.hid hs
 have HN:=Lib.hid hn
 clear h hs h1 hn
 go_enter Tryz.func206,Tryz.ntmps206
 go_wp2_with fail
 go_loopw [3,11] (fun q i wr=>Lr ps q i wr w) (fun _ i _=>ps.length - (intOf i).toNat)
 case atStart=>exact zq.out
 case round=>
  obtain⟨k,hk,rfl,rfl,rfl⟩:=hrel
  by_cases hlt:k < ps.length
  ·obtain⟨p,hp⟩:∃ p,ps[k]?=some p:=⟨ps[k],List.getElem?_eq_getElem hlt⟩
   have c0:=HC.out wr H.out k p hp
   have HT:=Lib.hid (yX ps hp)
   have HL:=Lib.hid (DF ps (k+1))
   have hlt':(k:Int) < (ps.length:Int):=by omega
   have hb:(fT (ps.take k)).length+p.2.2.length≤1000000000:=by
    have h1:=HL.out
    rw [HT.out,List.length_append] at h1
    have:=HN.out;omega
   have hr:Lr ps (.int .i64 (((fT (ps.take k)).length:Int)+(p.2.2.length:Int))) (.int .i64 ((k:Int)+1)) wr wr:=⟨k+1,by omega,by go_num,by rw [HT.out,List.length_append];go_num,rfl⟩
   have HR:=Lib.hid hr
   unfold BL at c0
   clear hp hr HL HT G zq hlt
   generalize (fT (ps.take k)).length=x at *
   generalize p.2.2.length=y at *
   have hneg:decide ((x:Int)+(y:Int) < 0)=false:=by simp;omega
   go_wp2_with fail
   go_roundw
   case rel=>exact HR.out
   case measure=>simp [intOf];omega
  ·have hge:(ps.length:Int)≤(k:Int):=by omega
   have hkl:ps.take k=ps:=List.take_of_length_le (by omega)
   rw [hkl]
   clear hlt hkl
   go_wp2_with fail
   refine G.out.mono ?_
   rintro e w1 ⟨v,rfl,g1⟩
   have HR:Hid (Ls ps pb F0 w0 R v (.int .i64 0) w1):=Lib.hid ⟨0,Nat.zero_le _,rfl,by simpa [fT,cB] using g1⟩
   clear g1 G zq
   go_wp2_with fail
   go_loopw [6,27] (Ls ps pb F0 w0 R) (fun _ i _=>ps.length - (intOf i).toNat)
   case atStart=>exact HR.out
   case round=>
    obtain⟨j,hj,rfl,ho⟩:=hrel
    clear HR
    by_cases hlt:j < ps.length
    ·obtain⟨p,hp⟩:∃ p,ps[j]?=some p:=⟨ps[j],List.getElem?_eq_getElem hlt⟩
     have c0:=HC.out wr ho.drop j p hp
     have HT:=Lib.hid (yX ps hp)
     have HL:=Lib.hid (DF ps (j+1))
     have hlt':(j:Int) < (ps.length:Int):=by omega
     have SS:=Lib.hid (HS.out p (List.mem_of_getElem? hp) wr ho.drop.drop)
     have HO:=Lib.hid ho
     have HB:Hid ((fT (ps.take j)).length+p.2.2.length≤1000000000):=Lib.hid (by
      have h1:=HL.out
      rw [HT.out,List.length_append] at h1
      have:=HN.out;omega)
     have HR:Hid (∀ v' w',In F0 w0 w' (ay 3 1 v' ((fT (ps.take j)).length+p.2.2.length) (cB (fT (ps.take j))++cB p.2.2)::Cells pb (ps.map BL).toArray 104::R)→Ls ps pb F0 w0 R v' (.int .i64 (j+1)) w'):=Lib.hid fun v' w' h'=>
      ⟨j+1,by omega,by go_num,by rw [HT.out,List.length_append,show cB (fT (ps.take j)++p.2.2)=cB (fT (ps.take j))++cB p.2.2 from List.map_append ..];exact h'⟩
     unfold BL at c0
     clear hp ho hlt HL
     go_wp2_with (at_builtin;refine iG rfl HO.out 0 rfl (.tmp 31) (.tmp 32) 104 (by rfl) Tryz.underlying104 oN (by decide) (by decide) (by rfl) (by rfl) SS.out (Qw _) HB.out ?_)
     intro v' w2 g2 hg
     have HX:=Lib.hid (HR.out v' w2 g2)
     clear g2 hg HR HB HO SS
     go_wp2_with fail
     go_roundw
     case rel=>exact HX.out
     case measure=>simp [intOf];omega
    ·have hge:(ps.length:Int)≤(j:Int):=by omega
     have hkl:ps.take j=ps:=List.take_of_length_le (by omega)
     rw [hkl] at ho
     have HO:=Lib.hid (ho.aL (R1:=[_,_]) [0] (by decide) rfl)
     clear ho hlt hkl
     go_wp2_with fail
     go_ret
     exact⟨_,rfl,HO.out⟩
end
end Go.Proofs.YtanhdliaaccacaaGreat
