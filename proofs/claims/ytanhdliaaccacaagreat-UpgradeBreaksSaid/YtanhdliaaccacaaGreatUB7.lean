/- .. -/
import Derived.Test.YtanhdliaaccacaaGreatUB4
import Derived.Test.YtanhdliaaccacaaGreatUB6
import Derived.Lib.SlBytesConst
namespace Go.Proofs.YtanhdliaaccacaaGreat
open Go.RowKit
set_option linter.unusedVariables false
set_option maxHeartbeats 64000000
set_option maxRecDepth 100000
section
variable {F0:List Nat} {w0 w:World} {R:List ax}
theorem Qq {g:Nat} (h:In F0 w0 w (Cells g #[.slice none 0 0] 168::R)):In F0 w0 w (WA g []::R):=by
 have h1:=h.dz 5 1
 exact h1.fold (C:=WA g []) 0 rfl (WA.aB _ _) (fun F hF=>⟨_,hF⟩)
theorem CY {g:Nat} {C:Array Value} {T:TypeId} {fz:Nat×Nat} {bs:List UInt8} (h:w.heap[g]?=some (.cells C T fz)) (hc:C.toList=eB bs):Src w (some ⟨g,0,none⟩) bs.length 1 (eB bs):=
 ⟨by rw [iq,Nat.mul_one],fun _=>⟨_,rfl,fun j u hu=>by rw [lq,Nat.zero_add];exact cell_of h (by rw [← hc,Array.getElem?_toList] at hu;exact hu)⟩⟩
def zG (kind ak:Int) (body:List UInt8) (F0:List Nat) (w0:World) (R:List ax) (e:Ending) (w':World):Prop:=
 ∃ v,e=.returned (.tuple #[v,.int .i64 (gu kind ak body.length)])∧In F0 w0 w' (ay 5 1 v (xE kind ak body).length (eB (xE kind ak body))::R)
theorem Ep (h:In F0 w0 w R) (kind ak:Int) {A:Option Addr} {c:Nat} {body:List UInt8} (hl:body.length≤10000000) (hs:∀ w',In F0 w0 w' R→Src w' A body.length 1 (eB body)) :
  Calls Tryz.prog 137 #[.agg #[.int .i64 kind,.int .i64 ak,.slice A body.length c]] w (zG kind ak body F0 w0 R):=by
 have h1:=h.cells #[.int .i64 kind,.int .i64 ak,.slice A body.length c] 86
 have jH:Hid (∀ e,gu kind ak body.length=e→e≠0→zG kind ak body F0 w0 R (.returned (.tuple #[.slice none 0 0,.int .i64 e])) (w.alloc (.cells #[.int .i64 kind,.int .i64 ak,.slice A body.length c] 86))):=Lib.hid fun e he hne=>by
  have e2:xE kind ak body=[]:=by unfold xE;rw [he,if_neg hne]
  exact⟨_,by rw [he],by rw [e2];exact h1.drop.dz _ _⟩
 have H1:=Lib.hid h1
 have HS:=Lib.hid hs
 by_cases hk:kind < 0∨255 < kind∨ak < 0∨255 < ak
 ·have HE:=Lib.hid (jH.out 1 (by unfold gu;rw [if_pos hk]) (by omega))
  clear h h1 hs jH H1 HS
  by_cases k1:kind < 0
  ·clear hk
   go_enter Tryz.func137,Tryz.ntmps137
   go_wp2_with fail
   go_ret2
   exact HE.out
  ·by_cases k2:255 < kind
   ·clear hk
    go_enter Tryz.func137,Tryz.ntmps137
    go_wp2_with fail
    go_ret2
    exact HE.out
   ·by_cases k3:ak < 0
    ·clear hk
     go_enter Tryz.func137,Tryz.ntmps137
     go_wp2_with fail
     go_ret2
     exact HE.out
    ·have k4:255 < ak:=by omega
     clear hk
     go_enter Tryz.func137,Tryz.ntmps137
     go_wp2_with fail
     go_ret2
     exact HE.out
 ·have k1:0≤kind:=by omega
  have k2:kind≤255:=by omega
  have k3:0≤ak:=by omega
  have k4:ak≤255:=by omega
  by_cases hb:4096 < body.length
  ·have HE:=Lib.hid (jH.out 4 (by unfold gu;rw [if_neg hk,if_pos hb]) (by omega))
   have hb':(4096:Int) < (body.length:Int):=by omega
   clear h h1 hs jH H1 HS hk hb
   go_enter Tryz.func137,Tryz.ntmps137
   go_wp2_with fail
   go_ret2
   exact HE.out
  ·have e0:gu kind ak body.length=0:=by unfold gu;rw [if_neg hk,if_neg hb]
   have e1:xE kind ak body=aj ⟨kind.toNat,ak.toNat,body⟩:=by unfold xE;rw [if_pos e0]
   have HP:Hid (∀ w' v,In F0 w0 w' (ay 5 1 v (aj ⟨kind.toNat,ak.toNat,body⟩).length (eB (aj ⟨kind.toNat,ak.toNat,body⟩))::R)→zG kind ak body F0 w0 R (.returned (.tuple #[v,.int .i64 0])) w'):=Lib.hid fun w' v h'=>⟨v,by rw [e0],by rw [e1];exact h'⟩
   have hbl:(body.length:Int)≤4096:=by omega
   have eh:jG kind.toNat ak.toNat body.length=mark++be (u64 kind) 1++be (u64 ak) 1++be (u64 body.length) 2:=by
    have a1:u64 kind=kind.toNat:=by unfold u64;omega
    have a2:u64 ak=ak.toNat:=by unfold u64;omega
    have a3:u64 (body.length:Int)=body.length:=by unfold u64;omega
    rw [a1,a2,a3];rfl
   have ef:aj ⟨kind.toNat,ak.toNat,body⟩=jG kind.toNat ak.toNat body.length++be (u64 (crc (jG kind.toNat ak.toNat body.length))) 4++be (u64 (crc body)) 4++body:=by
    have a1:∀ b,u64 (crc b:Int)=crc b:=fun b=>by have:=xC b;unfold u64;omega
    rw [a1,a1];rfl
   have EH:=Lib.hid eh
   have EF:=Lib.hid ef
   have hc1:=xC (jG kind.toNat ak.toNat body.length)
   have hc2:=xC body
   have hh:(jG kind.toNat ak.toNat body.length).length=8:=oZ _ _ _
   have HH:=Lib.hid hh
   have d0:∀ w',In F0 w0 w' (Cells w.heap.size #[.int .i64 kind,.int .i64 ak,.slice A body.length c] 86::R)→w'.cell? ⟨w.heap.size,0,none⟩=some (.int .i64 kind)∧w'.cell? ⟨w.heap.size,1,none⟩=some (.int .i64 ak)∧w'.cell? ⟨w.heap.size,2,none⟩=some (.slice A body.length c):=
    fun w' h'=>⟨cell_of (h'.block 0 rfl) rfl,cell_of (h'.block 0 rfl) rfl,cell_of (h'.block 0 rfl) rfl⟩
   have D0:=Lib.hid d0
   -- the writer,and its first bytes
   have h2:=Qq ((h1.cells #[.slice none 0 0] 168))
   simp only [World.size_alloc] at h2
   have kc:=Lib.run_convert_bytes_const (P:=Tryz.prog) ((w.alloc (.cells #[.int .i64 kind,.int .i64 ak,.slice A body.length c] 86)).alloc (.cells #[.slice none 0 0] 168)) 65 5 #[.int .u8 103,.int .u8 111,.int .u8 105,.int .u8 116] 4 4 Tryz.underlying65 Tryz.underlying5
   simp only [World.size_alloc] at kc
   have h3:=h2.alloc (.cells #[.int .u8 103,.int .u8 111,.int .u8 105,.int .u8 116] 5 (4,5))
   have s3:Src (((w.alloc (.cells #[.int .i64 kind,.int .i64 ak,.slice A body.length c] 86)).alloc (.cells #[.slice none 0 0] 168)).alloc (.cells #[.int .u8 103,.int .u8 111,.int .u8 105,.int .u8 116] 5 (4,5))) (some ⟨w.heap.size+1+1,0,none⟩) mark.length 1 (eB mark):=by
    refine CY (mR ?_) rfl
    simp
   have C1:=Lib.hid (PM (c:=4) h3 0 rfl (by simp) s3 (by decide))
   clear h h1 hs jH H1 h2 h3 s3 hk hb e0 e1 eh ef hh d0
   go_enter Tryz.func137,Tryz.ntmps137
   go_wp2_with fail
   refine C1.out.mono ?_
   rintro e w1 ⟨rfl,g1⟩
   clear C1 kc
   have l1:([]++mark).length≤1000000:=by decide
   have C2:=Lib.hid (Mf g1 0 rfl l1 kind)
   obtain⟨d0,d1,d2⟩:=D0.out w1 g1.drop
   clear g1 l1
   go_wp2_with fail
   refine C2.out.mono ?_
   rintro e w2 ⟨rfl,g2⟩
   clear C2 d0 d1 d2
   have C3:=Lib.hid (Mf g2 0 rfl (by simp [mark,bf]) ak)
   obtain⟨d0,d1,d2⟩:=D0.out w2 g2.drop
   clear g2
   go_wp2_with fail
   refine C3.out.mono ?_
   rintro e w3 ⟨rfl,g3⟩
   clear C3 d0 d1 d2
   have C4:=Lib.hid (Ae g3 0 rfl (by simp [mark,bf]) body.length)
   obtain⟨d0,d1,d2⟩:=D0.out w3 g3.drop
   clear g3
   go_wp2_with fail
   refine C4.out.mono ?_
   rintro e w4 ⟨rfl,g4⟩
   clear C4 d0 d1 d2
   have g4':In F0 w0 w4 (WA (w.heap.size+1) (jG kind.toNat ak.toNat body.length)::Cells w.heap.size #[.int .i64 kind,.int .i64 ak,.slice A body.length c] 86::R):=by rw [EH.out];exact g4
   clear g4 EH
   have C5:=Lib.hid (vY g4' 0 rfl (by rw [HH.out];omega))
   clear g4'
   go_wp2_with fail
   refine C5.out.mono ?_
   rintro e w5 ⟨v5,rfl,g5⟩
   clear C5
   obtain⟨F5,r5⟩:=g5.get 0 rfl
   obtain⟨a5,c5,rfl,-,-,-⟩:=r5.shape
   have C6:=Lib.hid (wB (c:=c5) r5.all (by rw [HH.out];omega))
   have C7:=Lib.hid (uO g5 1 rfl (by rw [HH.out];omega) (n:=(crc (jG kind.toNat ak.toNat body.length):Int)) (by omega) (by omega))
   clear g5 r5
   go_wp2_with fail
   refine C6.out.mono ?_
   rintro e w6 ⟨rfl,rfl⟩
   clear C6
   go_wp2_with fail
   refine C7.out.mono ?_
   rintro e w7 ⟨rfl,g7⟩
   clear C7
   have TM:=g7.drop
   obtain⟨d0,d1,d2⟩:=D0.out w7 TM.drop
   have C8:=Lib.hid (wB (c:=c) (HS.out w7 TM.drop.drop) (by omega))
   have C9:=Lib.hid (uO TM 0 rfl (by simp only [List.length_append,bf,HH.out];omega) (n:=(crc body:Int)) (by omega) (by omega))
   clear g7 TM
   go_wp2_with fail
   refine C8.out.mono ?_
   rintro e w8 ⟨rfl,rfl⟩
   clear C8
   go_wp2_with fail
   refine C9.out.mono ?_
   rintro e w9 ⟨rfl,g9⟩
   clear C9 d0 d1 d2
   obtain⟨d0,d1,d2⟩:=D0.out w9 g9.drop
   have Zk:=Lib.hid (PM (c:=c) g9 0 rfl (by simp only [List.length_append,bf,HH.out];omega) (HS.out w9 g9.drop.drop) hl)
   clear g9
   go_wp2_with fail
   refine Zk.out.mono ?_
   rintro e Gw ⟨rfl,g10⟩
   clear Zk d0 d1 d2
   have ZG:In F0 w0 Gw (WA (w.heap.size+1) (aj ⟨kind.toNat,ak.toNat,body⟩)::Cells w.heap.size #[.int .i64 kind,.int .i64 ak,.slice A body.length c] 86::R):=by rw [EF.out];exact g10
   clear g10 EF
   have C11:=Lib.hid (vY ZG 0 rfl (by rw [dJ];simp only;omega))
   clear ZG
   go_wp2_with fail
   refine C11.out.mono ?_
   rintro e w11 ⟨v11,rfl,g11⟩
   have HF:=Lib.hid (HP.out w11 v11 (g11.aL (R1:=[_,_,_]) [0] (by decide) rfl))
   clear g11 C11 HP
   go_wp2_with fail
   go_ret2
   exact HF.out
end
section
variable {F0:List Nat} {w0 w:World} {R:List ax}
theorem Av {A:Option Addr} {n m:Nat} {bs:List UInt8} (h:Src w A n 1 (eB bs)) (hn:bs.length=n) (hm:m≤n):Src w A m 1 (eB (bs.take m)):=by
 refine⟨by rw [iq,List.length_take];omega,fun h0=>?_⟩
 obtain⟨ad,e,hc⟩:=h.at' (by omega)
 refine⟨ad,e,fun j u hu=>hc j u ?_⟩
 rw [← Ac,List.getElem?_take] at hu
 split at hu
 ·exact hu
 ·cases hu
theorem Aw {g o n i:Nat} {bs:List UInt8} (h:Src w (some ⟨g,o,none⟩) n 1 (eB bs)) (hn:bs.length=n) (hi:i < n):Src w (some ⟨g,o+i,none⟩) (n - i) 1 (eB (bs.drop i)):=by
 refine⟨by rw [iq,List.length_drop];omega,fun h0=>?_⟩
 obtain⟨ad,e,hc⟩:=h.at' (by omega)
 cases e
 refine⟨_,rfl,fun j u hu=>?_⟩
 rw [← Ad,List.getElem?_drop] at hu
 have:=hc _ u hu
 rw [lq] at this ⊢
 rwa [Nat.add_assoc]
theorem Um (g o:Nat) (n cap i j:Nat) (h0:i < cap) (h1:i≤j) (h2:j≤cap) (w:World) :
  (Instr.slice 65 (.slice (some ⟨g,o,none⟩) n cap) (some (.int .i64 i)) (some (.int .i64 j)) none).run Tryz.prog w=.ok (.slice (some ⟨g,o+i,none⟩) (j - i) (cap - i)) w:=by
 have he:Tryz.prog.elem 65=5:=by simp [Program.elem,Tryz.underlying65]
 have hs:(sizeOf 5).run Tryz.prog w=.ok 1 w:=by
  have dK:=infoByte
  cases e:Tryz.prog.info? 5 with
  | none=>rw [e] at dK;cases dK
  | some i0=>
   rw [e] at dK
   simp only [Option.map_some,Option.some.injEq,Prod.mk.injEq] at dK
   simp [sizeOf,typeInfo,e,dK.2.1]
 have:=run_slice_lh (P:=Tryz.prog) w 65 (some ⟨g,o,none⟩) n cap (by rw [he];exact Tryz.underlying65) .i64 .i64 (i:Int) (j:Int) (by omega) (by omega) (by omega)
 rw [this,he,hs]
 have hne:¬ cap=i:=by omega
 simp [Result.andThen,sliced,lq,hne]
theorem Hl (g o:Nat) (n cap:Nat) (w:World) :
  (Instr.slice 65 (.slice (some ⟨g,o,none⟩) n cap) (some (.int .i64 cap)) (some (.int .i64 cap)) none).run Tryz.prog w=.ok (.slice (some ⟨g,o,none⟩) 0 0) w:=by
 have he:Tryz.prog.elem 65=5:=by simp [Program.elem,Tryz.underlying65]
 have hs:(sizeOf 5).run Tryz.prog w=.ok 1 w:=by
  have dK:=infoByte
  cases e:Tryz.prog.info? 5 with
  | none=>rw [e] at dK;cases dK
  | some i0=>
   rw [e] at dK
   simp only [Option.map_some,Option.some.injEq,Prod.mk.injEq] at dK
   simp [sizeOf,typeInfo,e,dK.2.1]
 have:=run_slice_lh (P:=Tryz.prog) w 65 (some ⟨g,o,none⟩) n cap (by rw [he];exact Tryz.underlying65) .i64 .i64 (cap:Int) (cap:Int) (by omega) (by omega) (by omega)
 rw [this,he,hs]
 simp [Result.andThen,sliced]
theorem qa {l:List UInt8} {n:Nat} (h:n≤l.length):aU l 0 n=(l.take n,l.drop n,0):=by unfold aU;rw [if_neg (by simp),if_neg (by omega)]
def nV (b:List UInt8) (F0:List Nat) (w0:World) (R:List ax) (e:Ending) (w':World):Prop:=
 ∃ v,e=.returned (.tuple #[.agg #[.int .i64 (bq b).1.kind,.int .i64 (bq b).1.ak,v],.int .i64 (bq b).2.1,.int .i64 (bq b).2.2]) ∧
  In F0 w0 w' (ay 5 1 v (bq b).1.body.length (eB (bq b).1.body)::R)
structure Bytes (F0:List Nat) (w0:World) (R:List ax) (A:Option Addr) (c:Nat) (b:List UInt8):Prop where
 src:∀ w',In F0 w0 w' R→Src w' A b.length 1 (eB b)
 nil:A=none→c=0∧b=[]
 ad:A=none∨∃ g o,A=some ⟨g,o,none⟩
 cap:b.length≤c
 room:c≤maxLen
theorem In.Un {g:Nat} {a b c:Value} {T:TypeId} (h:In F0 w0 w (Cells g #[a,b,c] T::R)) (x y z:Value):In F0 w0 (((w.setCell ⟨g,0,none⟩ x).setCell ⟨g,1,none⟩ y).setCell ⟨g,2,none⟩ z) (Cells g #[x,y,z] T::R):=
 ((h.put 0 rfl 0 x).put 0 rfl 1 y).put 0 rfl 2 z
theorem bT {g:Nat} {C:Array Value} {T:TypeId} {fz:Nat×Nat} (h:w.heap[g]?=some (.cells C T fz)) {o:Nat} (ho:o < C.size) (v:Value):(w.setCell ⟨g,o,none⟩ v).cell? ⟨g,o,none⟩=some v:=
 cell_of (aR h) (by simp [ho])
theorem Hm (h:In F0 w0 w R) {A:Option Addr} {c:Nat} {b:List UInt8} (hb:Bytes F0 w0 R A c b) (hl:b.length≤100000000) :
  Calls Tryz.prog 216 #[.slice A b.length c] w (nV b F0 w0 R):=by
 have h1:=h.cells #[.int .i64 0,.int .i64 0,.slice none 0 0] 86
 have hcap:=hb.cap
 by_cases h16:b.length < 16
 ·have e:bq b=(ja,0,2):=by unfold bq;rw [if_pos h16]
  have h2:=h1.put 0 rfl 0 (.int .i64 0)
  have HE:Hid (∀ w',In F0 w0 w' R→nV b F0 w0 R (.returned (.tuple #[.agg #[.int .i64 0,.int .i64 0,.slice none 0 0],.int .i64 0,.int .i64 2])) w'):=Lib.hid fun w' h'=>⟨_,by rw [e];rfl,by rw [e];exact h'.dz _ _⟩
  have d0:=fun (w':World) (h':In F0 w0 w' (Cells w.heap.size #[.int .i64 0,.int .i64 0,.slice none 0 0] 86::R))=>cell_of (o:=0) (h'.block 0 rfl) rfl
  have abD:(b.length:Int) < 16:=by omega
  have HI:=Lib.hid h
  clear h h1 h2 hb e hcap h16 d0
  go_enter Tryz.func216,Tryz.ntmps216
  go_wp2_with fail
  exact bodyPost_ret (v:=.tuple #[.agg #[.int .i64 0,.int .i64 0,.slice none 0 0],.int .i64 0,.int .i64 2]) (by simp [results,Tryz.results216,go_sem]) rfl (HE.out _ (HI.out.alloc _))
 ·obtain⟨g,o,rfl⟩:∃ g o,A=some ⟨g,o,none⟩:=by
   rcases hb.ad with rfl | h
   ·have:=(hb.nil rfl).2;subst this;simp at h16
   ·exact h
  have hge:16≤b.length:=by omega
  have hge':(16:Int)≤(b.length:Int):=by omega
  have e16:(b.take 16).length=16:=by rw [List.length_take];omega
  have r16:∀ w,(Instr.slice 65 (.slice (some ⟨g,o,none⟩) b.length c) none (some (.int .i64 16)) none).run Tryz.prog w=.ok (.slice (some ⟨g,o,none⟩) 16 c) w:=fun w=>uU g o b.length c 16 (by omega) w
  have C1:=JJ (A:=some ⟨g,o,none⟩) (c:=c) (bs:=b.take 16) h1 (fun e=>by cases e) (by rw [e16];exact Av (hb.src _ h1.drop) rfl hge) (by rw [e16];omega)
  rw [e16] at C1
  have K1:=Lib.hid C1
  have HB:=Lib.hid hb
  have R16:=Lib.hid r16
  have seg:∀ k m,k+m≤16→aU ((b.take 16).drop k) 0 m=((b.drop k).take m,(b.take 16).drop (k+m),0):=fun k m hkm=>by
   rw [qa (by rw [List.length_drop,e16];omega),List.drop_drop,List.drop_take,List.take_take,Nat.min_eq_left (by omega)]
  have Xr:=Lib.hid seg
  have r8:∀ w,(Instr.slice 65 (.slice (some ⟨g,o,none⟩) b.length c) none (some (.int .i64 8)) none).run Tryz.prog w=.ok (.slice (some ⟨g,o,none⟩) 8 c) w:=fun w=>uU g o b.length c 8 (by omega) w
  have e8:(b.take 8).length=8:=by rw [List.length_take];omega
  have E8:=Lib.hid e8
  clear h h1 hb C1 h16 e16 seg e8
  go_enter Tryz.func216,Tryz.ntmps216
  go_wp2_with fail
  refine K1.out.mono ?_
  rintro e w1 ⟨br,rfl,g1⟩
  clear K1
  have C2:=PR g1 0 rfl 4 (by omega)
  rw [show b.take 16=(b.take 16).drop 0 from rfl,Xr.out 0 4 (by omega)] at C2
  have K2:=Lib.hid C2
  clear g1 C2
  go_wp2_with fail
  refine K2.out.mono ?_
  rintro e w2 ⟨v2,rfl,g2⟩
  clear K2
  have l4:((b.drop 0).take 4).length=4:=by rw [List.length_take,List.length_drop];omega
  simp only [l4] at g2
  obtain⟨x4,hx4⟩:∃ x,(b.drop 0).take 4=x:=⟨_,rfl⟩
  rw [hx4] at g2
  have X4:=Lib.hid hx4
  clear hx4 l4
  obtain⟨F2,hr2⟩:=g2.get 0 rfl
  obtain⟨a2,c2,rfl,-,-,-⟩:=hr2.shape
  have cv:=GJ (w:=w2) (cap:=c2) hr2.all (fun e=>by
   obtain⟨_,_,h4 | ⟨g',_,_,e',_⟩⟩:=hr2
   ·exact h4.2
   ·cases e';cases e)
  have g2':=g2.drop
  have G2:=Lib.hid g2'
  clear g2 g2' hr2
  obtain⟨bg,hbg⟩:∃ bg,(x4 == [103,111,105,116])=bg:=⟨_,rfl⟩
  have BG:Hid (bg=decide (b.take 4=mark)):=Lib.hid (by
   rw [← hbg,← X4.out,List.drop_zero]
   cases e:(b.take 4 == [103,111,105,116]) with
   | true=>have:b.take 4=mark:=eq_of_beq e;simp [this]
   | false=>have:b.take 4≠mark:=(by intro h;rw [h] at e;exact absurd e (by decide));simp [this])
  go_wp2_with fail
  clear hbg X4 cv
  have C3:=PN G2.out 0 rfl
  rw [Xr.out 4 1 (by omega)] at C3
  have K3:=Lib.hid C3
  clear C3 G2
  refine K3.out.mono ?_
  rintro e w3 ⟨rfl,g3⟩
  have C4:=PN g3 0 rfl
  rw [Xr.out 5 1 (by omega)] at C4
  have K4:=Lib.hid C4
  clear C4 g3 K3
  have n4:=xD ((b.drop 4).take 1)
  simp only at n4 ⊢
  obtain⟨kd,hkd⟩:∃ kd,num ((b.drop 4).take 1)=kd:=⟨_,rfl⟩
  rw [hkd]
  have KD:=Lib.hid hkd
  clear hkd n4
  go_wp2_with fail
  refine K4.out.mono ?_
  rintro e w4 ⟨rfl,g4⟩
  have C5:=Em g4 0 rfl
  rw [Xr.out 6 2 (by omega)] at C5
  have K5:=Lib.hid C5
  clear C5 g4 K4
  simp only
  obtain⟨vd,hvd⟩:∃ kd,num ((b.drop 5).take 1)=kd:=⟨_,rfl⟩
  rw [hvd]
  have VD:=Lib.hid hvd
  clear hvd
  go_wp2_with fail
  refine K5.out.mono ?_
  rintro e w5 ⟨rfl,g5⟩
  have C6:=sw g5 0 rfl
  rw [Xr.out 8 4 (by omega)] at C6
  have K6:=Lib.hid C6
  clear C6 g5 K5
  simp only
  have n6:num ((b.drop 6).take 2) < 65536:=by
   have:=gJ (bs:=(b.drop 6).take 2) (k:=2) (by rw [List.length_take];omega)
   simpa using this
  obtain⟨sz,hsz⟩:∃ kd,num ((b.drop 6).take 2)=kd:=⟨_,rfl⟩
  rw [hsz] at n6 ⊢
  have SZ:=Lib.hid hsz
  clear hsz
  go_wp2_with fail
  refine K6.out.mono ?_
  rintro e w6 ⟨rfl,g6⟩
  have C7:=sw g6 0 rfl
  rw [Xr.out 12 4 (by omega)] at C7
  have K7:=Lib.hid C7
  clear C7 g6 K6 Xr
  simp only
  obtain⟨hd,hhd⟩:∃ kd,num ((b.drop 8).take 4)=kd:=⟨_,rfl⟩
  rw [hhd]
  have HD:=Lib.hid hhd
  clear hhd
  go_wp2_with fail
  refine K7.out.mono ?_
  rintro e w7 ⟨rfl,g7⟩
  have TM:=g7.drop
  simp only
  obtain⟨wh,hwh⟩:∃ kd,num ((b.drop 12).take 4)=kd:=⟨_,rfl⟩
  rw [hwh]
  have WH:=Lib.hid hwh
  clear hwh g7 K7
  have hf:bq b=if bg=false then (ja,0,3) else if hd≠crc (b.take 8) then (ja,0,5) else if 4096 < sz then (ja,0,4) else if b.length - 16 < sz then (ja,0,2) else if wh≠crc ((b.drop 16).take sz) then (ja,0,5) else (⟨kd,vd,(b.drop 16).take sz⟩,16+sz,0):=by
   rw [BG.out,← HD.out,← SZ.out,← WH.out,← KD.out,← VD.out]
   unfold bq
   rw [if_neg (by omega)]
   simp
  have HF:=Lib.hid hf
  have blk:=TM.block 0 rfl
  have d0:w7.cell? ⟨w.heap.size,0,none⟩=some (.int .i64 0):=cell_of blk rfl
  have d1:w7.cell? ⟨w.heap.size,1,none⟩=some (.int .i64 0):=cell_of blk rfl
  have d2:w7.cell? ⟨w.heap.size,2,none⟩=some (.slice none 0 0):=cell_of blk rfl
  have f0:w7.frozen? ⟨w.heap.size,0,none⟩=false:=aK blk
  have f1:w7.frozen? ⟨w.heap.size,1,none⟩=false:=aK blk
  have f2:w7.frozen? ⟨w.heap.size,2,none⟩=false:=aK blk
  have y0:∀ x,(w7.setCell ⟨w.heap.size,0,none⟩ x).cell? ⟨w.heap.size,0,none⟩=some x:=fun x=>bT blk (by simp) x
  have y1:∀ x y,((w7.setCell ⟨w.heap.size,0,none⟩ x).setCell ⟨w.heap.size,1,none⟩ y).cell? ⟨w.heap.size,1,none⟩=some y:=fun x y=>bT (aR blk) (by simp) y
  have y2:∀ x y z,(((w7.setCell ⟨w.heap.size,0,none⟩ x).setCell ⟨w.heap.size,1,none⟩ y).setCell ⟨w.heap.size,2,none⟩ z).cell? ⟨w.heap.size,2,none⟩=some z:=fun x y z=>bT (aR (aR blk)) (by simp) z
  have Y:=Lib.hid (And.intro y0 (And.intro y1 y2))
  clear y0 y1 y2
  have jH:Hid (∀ e:Int,bq b=(ja,0,e)→nV b F0 w0 R (.returned (.tuple #[.agg #[.int .i64 0,.int .i64 0,.slice none 0 0],.int .i64 0,.int .i64 e])) (((w7.setCell ⟨w.heap.size,0,none⟩ (.int .i64 0)).setCell ⟨w.heap.size,1,none⟩ (.int .i64 0)).setCell ⟨w.heap.size,2,none⟩ (.slice none 0 0))):=
   Lib.hid fun e he=>⟨_,by rw [he];rfl,by rw [he];exact (TM.Un _ _ _).drop.dz _ _⟩
  have K8:=wB (c:=c) (bs:=b.take 8) (by rw [E8.out];exact Av (m:=8) (HB.out.src w7 TM.drop) rfl (by omega)) (by rw [E8.out];omega)
  rw [E8.out] at K8
  have C8:=Lib.hid K8
  have G7:=Lib.hid TM
  have r8':=r8 w7
  clear hf TM blk K8 R16 r16 r8 KD VD HD WH SZ
  cases bg with
  | false=>
   have HE:=Lib.hid (jH.out 3 (by rw [HF.out];rfl))
   clear jH HF BG C8
   go_wp2_with fail
   exact bodyPost_ret (v:=.tuple #[.agg #[.int .i64 0,.int .i64 0,.slice none 0 0],.int .i64 0,.int .i64 3]) (by simp [results,Tryz.results216,go_sem,Y.out.1,Y.out.2.1,Y.out.2.2]) rfl HE.out
  | true=>
   go_wp2_with fail
   refine C8.out.mono ?_
   rintro e w8 ⟨rfl,rfl⟩
   clear C8
   have hf:=HF.out
   simp only [Bool.true_eq_false,if_false] at hf
   by_cases hc:hd=crc (b.take 8)
   ·have q8:((hd:Int) != (crc (b.take 8):Int))=false:=by rw [hc];simp
    rw [if_neg (by simpa using hc)] at hf
    have n8:=xC (b.take 8)
    clear hc BG HF
    generalize crc (b.take 8)=cr at *
    by_cases h4:4096 < sz
    ·have HE:=Lib.hid (jH.out 4 (by rw [hf,if_pos h4]))
     have h4':(4096:Int) < (sz:Int):=by omega
     clear jH hf h4
     go_wp2_with fail
     exact bodyPost_ret (v:=.tuple #[.agg #[.int .i64 0,.int .i64 0,.slice none 0 0],.int .i64 0,.int .i64 4]) (by simp [results,Tryz.results216,go_sem,Y.out.1,Y.out.2.1,Y.out.2.2]) rfl HE.out
    ·rw [if_neg h4] at hf
     by_cases h2:b.length - 16 < sz
     ·have HE:=Lib.hid (jH.out 2 (by rw [hf,if_pos h2]))
      have h2':(b.length:Int) - 16 < (sz:Int):=by omega
      clear jH hf h2
      go_wp2_with fail
      exact bodyPost_ret (v:=.tuple #[.agg #[.int .i64 0,.int .i64 0,.slice none 0 0],.int .i64 0,.int .i64 2]) (by simp [results,Tryz.results216,go_sem,Y.out.1,Y.out.2.1,Y.out.2.2]) rfl HE.out
     ·rw [if_neg h2] at hf
      have Xt:=Lib.hid hf
      have hsz:16+sz≤b.length:=by omega
      have ZH:((b.drop 16).take sz).length=sz:=by rw [List.length_take,List.length_drop];omega
      have HZ:=Lib.hid ZH
      have hsub:(sz:Int)≤(b.length:Int) - 16:=by omega
      obtain⟨o',c',rm,sm⟩:∃ o' c',(Instr.slice 65 (.slice (some ⟨g,o,none⟩) b.length c) (some (.int .i64 16)) (some (.int .i64 (16+(sz:Int)))) none).run Tryz.prog w8=.ok (.slice (some ⟨g,o',none⟩) sz c') w8∧Src w8 (some ⟨g,o',none⟩) sz 1 (eB ((b.drop 16).take sz)):=by
       by_cases hlt:16 < c
       ·refine⟨o+16,c - 16,?_,?_⟩
        ·have:=Um g o b.length c 16 (16+sz) hlt (by omega) (by omega) w8
         rw [show 16+sz - 16=sz by omega] at this
         exact this
        ·by_cases hz:16 < b.length
         ·have s1:=Aw (HB.out.src w8 G7.out.drop) rfl hz
          exact Av s1 (by rw [List.length_drop]) (by omega)
         ·obtain rfl:sz=0:=by omega
          exact⟨by rw [iq];simp,fun h0=>by omega⟩
       ·obtain rfl:sz=0:=by omega
        obtain rfl:c=16:=by omega
        exact⟨o,0,Hl g o b.length 16 w8,⟨by rw [iq];simp,fun h0=>by omega⟩⟩
      have C9:=Lib.hid (GX (c:=c') G7.out sm (by omega))
      have iM:Hid (∀ w' v,In F0 w0 w' (ay 5 1 v sz (eB ((b.drop 16).take sz))::Cells w.heap.size #[.int .i64 0,.int .i64 0,.slice none 0 0] 86::R) →
        (∀ x,(w'.setCell ⟨w.heap.size,0,none⟩ x).cell? ⟨w.heap.size,0,none⟩=some x)∧(∀ x y,((w'.setCell ⟨w.heap.size,0,none⟩ x).setCell ⟨w.heap.size,1,none⟩ y).cell? ⟨w.heap.size,1,none⟩=some y)∧(∀ x y z,(((w'.setCell ⟨w.heap.size,0,none⟩ x).setCell ⟨w.heap.size,1,none⟩ y).setCell ⟨w.heap.size,2,none⟩ z).cell? ⟨w.heap.size,2,none⟩=some z) ∧
        w'.cell? ⟨w.heap.size,0,none⟩=some (.int .i64 0)∧w'.cell? ⟨w.heap.size,1,none⟩=some (.int .i64 0)∧w'.cell? ⟨w.heap.size,2,none⟩=some (.slice none 0 0) ∧
        w'.frozen? ⟨w.heap.size,0,none⟩=false∧w'.frozen? ⟨w.heap.size,1,none⟩=false∧w'.frozen? ⟨w.heap.size,2,none⟩=false ∧
        (wh≠crc ((b.drop 16).take sz)→nV b F0 w0 R (.returned (.tuple #[.agg #[.int .i64 0,.int .i64 0,.slice none 0 0],.int .i64 0,.int .i64 5])) (((w'.setCell ⟨w.heap.size,0,none⟩ (.int .i64 0)).setCell ⟨w.heap.size,1,none⟩ (.int .i64 0)).setCell ⟨w.heap.size,2,none⟩ (.slice none 0 0))) ∧
        (wh=crc ((b.drop 16).take sz)→nV b F0 w0 R (.returned (.tuple #[.agg #[.int .i64 kd,.int .i64 vd,v],.int .i64 (16+(sz:Int)),.int .i64 0])) (((w'.setCell ⟨w.heap.size,0,none⟩ (.int .i64 kd)).setCell ⟨w.heap.size,1,none⟩ (.int .i64 vd)).setCell ⟨w.heap.size,2,none⟩ v))):=Lib.hid fun w' v h'=>by
       have bk:=h'.block 1 rfl
       refine⟨fun x=>bT bk (by simp) x,fun x y=>bT (aR bk) (by simp) y,fun x y z=>bT (aR (aR bk)) (by simp) z,cell_of bk rfl,cell_of bk rfl,cell_of bk rfl,aK bk,aK bk,aK bk,fun hne=>?_,fun heq=>?_⟩
       ·have he:bq b=(ja,0,5):=by rw [Xt.out,if_pos hne]
        exact⟨_,by rw [he];rfl,by rw [he];exact (h'.drop.Un _ _ _).drop.dz _ _⟩
       ·have he:bq b=(⟨kd,vd,(b.drop 16).take sz⟩,16+sz,0):=by rw [Xt.out,if_neg (by simpa using heq)]
        have h2:=((h'.put 1 rfl 0 (.int .i64 kd)).put 1 rfl 1 (.int .i64 vd)).put 1 rfl 2 v
        refine⟨v,by rw [he];simp,?_⟩
        rw [he]
        simp only [HZ.out]
        exact h2.aL (R1:=[_,_]) [0] (by decide) rfl
      have hbx:∃ body,(b.drop 16).take sz=body:=⟨_,rfl⟩
      obtain⟨body,hbody⟩:=hbx
      rw [hbody] at C9 iM HZ
      have h4n:(sz:Int)≤4096:=by omega
      have h4m:sz≤4096:=by omega
      clear hf h2 h4 ZH Xt jH sm hbody G7 HB d0 d1 d2 f0 f1 f2
      go_wp2_with fail
      refine C9.out.mono ?_
      rintro e w9 ⟨v9,rfl,g9⟩
      obtain⟨F9,r9⟩:=g9.get 0 rfl
      obtain⟨a9,c9,rfl,-,-,-⟩:=r9.shape
      have Zk:=wB (c:=c9) (bs:=body) (by rw [HZ.out];exact r9.all) (by rw [HZ.out];omega)
      rw [HZ.out] at Zk
      have K10:=Lib.hid Zk
      obtain⟨y0,y1,y2,d0,d1,d2,f0,f1,f2,hno,ZI⟩:=iM.out w9 _ g9
      have NO:=Lib.hid hno
      have YES:=Lib.hid ZI
      have Y9:=Lib.hid (And.intro y0 (And.intro y1 y2))
      clear g9 r9 C9 Zk iM HZ hno ZI y0 y1 y2 rm
      go_wp2_with fail
      refine K10.out.mono ?_
      rintro e Gw ⟨rfl,rfl⟩
      clear K10
      by_cases hwc:wh=crc body
      ·have q9:((wh:Int) != (crc body:Int))=false:=by rw [hwc];simp
       have HE:=Lib.hid (YES.out hwc)
       clear NO YES hwc
       generalize crc body=cb at *
       go_wp2_with fail
       exact bodyPost_ret (v:=.tuple #[.agg #[.int .i64 kd,.int .i64 vd,.slice a9 sz c9],.int .i64 (16+(sz:Int)),.int .i64 0]) (by simp [results,Tryz.results216,go_sem,Y9.out.1,Y9.out.2.1,Y9.out.2.2]) rfl HE.out
      ·have q9:((wh:Int) != (crc body:Int))=true:=by rw [bne_iff_ne];omega
       have HE:=Lib.hid (NO.out hwc)
       clear NO YES hwc
       generalize crc body=cb at *
       go_wp2_with fail
       exact bodyPost_ret (v:=.tuple #[.agg #[.int .i64 0,.int .i64 0,.slice none 0 0],.int .i64 0,.int .i64 5]) (by simp [results,Tryz.results216,go_sem,Y9.out.1,Y9.out.2.1,Y9.out.2.2]) rfl HE.out
   ·have q8:((hd:Int) != (crc (b.take 8):Int))=true:=by rw [bne_iff_ne];omega
    rw [if_pos (by simpa using hc)] at hf
    have HE:=Lib.hid (jH.out 5 hf)
    clear jH HF hf hc BG
    generalize crc (b.take 8)=cr at *
    go_wp2_with fail
    exact bodyPost_ret (v:=.tuple #[.agg #[.int .i64 0,.int .i64 0,.slice none 0 0],.int .i64 0,.int .i64 5]) (by simp [results,Tryz.results216,go_sem,Y.out.1,Y.out.2.1,Y.out.2.2]) rfl HE.out
end
def wC (f:cz) (v:Value):List Value:=[.int .i64 f.kind,.int .i64 f.ak,v]
def flatFr:List cz→List Value→List Value
 | f::fs,v::vs=>wC f v++flatFr fs vs
 | _,_=>[]
def nz (v:Value) (f:cz):ax:=ay 5 1 v f.body.length (eB f.body)
def bodiesR:List Value→List cz→List ax
 | v::vs,f::fs=>nz v f::bodiesR vs fs
 | _,_=>[]
def Er (v:Value) (vs:List Value) (fs:List cz):List ax:=ay 86 3 v fs.length (flatFr fs vs)::bodiesR vs fs
def uZ (v:Value) (fs:List cz):ax:=fun w F=>∃ vs:List Value,vs.length=fs.length∧Star (Er v vs fs) w F
theorem bodiesR.aB:∀ {vs:List Value} {fs:List cz},∀ A∈bodiesR vs fs,bD A
 | [],_,A,hA=>by simp [bodiesR] at hA
 | _::_,[],A,hA=>by simp [bodiesR] at hA
 | v::vs,f::fs,A,hA=>by
  rcases List.mem_cons.1 hA with rfl | hA
  ·exact ay.aB _ _ _ _ _
  ·exact bodiesR.aB A hA
theorem Er.aB {v:Value} {vs:List Value} {fs:List cz}:∀ A∈Er v vs fs,bD A:=by
 intro A hA
 rcases List.mem_cons.1 hA with rfl | hA
 ·exact ay.aB _ _ _ _ _
 ·exact bodiesR.aB A hA
theorem uZ.aB (v:Value) (fs:List cz):bD (uZ v fs):=by
 refine⟨?_,?_⟩
 ·rintro w w' F ⟨vs,hl,h⟩ hk;exact⟨vs,hl,(bD.star Er.aB).keep h hk⟩
 ·rintro w F ⟨vs,hl,h⟩;exact (bD.star Er.aB).lt h
theorem sI:∀ {fs:List cz} {vs:List Value} (f:cz) (v:Value),vs.length=fs.length→flatFr (fs++[f]) (vs++[v])=flatFr fs vs++wC f v
 | [],[],f,v,_=>by simp [flatFr]
 | g::fs,u::vs,f,v,h=>by
  simp only [List.length_cons,Nat.add_right_cancel_iff] at h
  show wC g u++flatFr (fs++[f]) (vs++[v])=wC g u++flatFr fs vs++wC f v
  rw [sI f v h,List.append_assoc]
 | [],_::_,_,_,h=>by simp at h
 | _::_,[],_,_,h=>by simp at h
theorem rD:∀ {vs:List Value} {fs:List cz} (v:Value) (f:cz),vs.length=fs.length→bodiesR (vs++[v]) (fs++[f])=bodiesR vs fs++[nz v f]
 | [],[],v,f,_=>rfl
 | u::vs,g::fs,v,f,h=>by
  simp only [List.length_cons,Nat.add_right_cancel_iff] at h
  show nz u g::bodiesR (vs++[v]) (fs++[f])=_
  rw [rD v f h];rfl
 | [],_::_,_,_,h=>by simp at h
 | _::_,[],_,_,h=>by simp at h
theorem CZ:(Tryz.prog.info? 86).map (fun i=>(i.zero.map (fun z=>z.cells.size),i.size,i.bytes))=some (some 3,3,40):=by kernel_rfl
section
variable {F0:List Nat} {w0 w:World} {R:List ax}
theorem In.right {R1 R2:List ax} (h:In F0 w0 w (R1++R2)):In F0 w0 w R2:=In.take (h.perm List.perm_append_comm)
def Es (b:List UInt8) (F0:List Nat) (w0:World) (R:List ax) (v k:Value) (wr:World):Prop:=
 ∃ (n:Nat) (fs:List cz) (vs:List Value),k=.int .i64 n∧n≤b.length∧vs.length=fs.length∧fs.length≤n∧bO b=(fs++(bO (b.drop n)).1,n+(bO (b.drop n)).2.1,(bO (b.drop n)).2.2) ∧
  In F0 w0 wr (ay 86 3 v fs.length (flatFr fs vs)::(bodiesR vs fs++R))
def Ay (b:List UInt8) (F0:List Nat) (w0:World) (R:List ax) (e:Ending) (w':World):Prop:=
 ∃ v,e=.returned (.tuple #[v,.int .i64 (bO b).2.1,.int .i64 (bO b).2.2])∧In F0 w0 w' (uZ v (bO b).1::R)
theorem uh {v:Value} {vs:List Value} {fs:List cz} (hl:vs.length=fs.length) (h:In F0 w0 w (ay 86 3 v fs.length (flatFr fs vs)::(bodiesR vs fs++R))):In F0 w0 w (uZ v fs::R):=by
 have h1:=In.join (A1:=Er v vs fs) (R:=R) h
 exact h1.imp (A':=uZ v fs) 0 rfl (uZ.aB _ _) fun F hF=>⟨vs,hl,hF⟩
theorem Ho (h:In F0 w0 w R) {A:Option Addr} {c:Nat} {b:List UInt8} (hb:Bytes F0 w0 R A c b) (hl:b.length≤10000000) :
  Calls Tryz.prog 222 #[.slice A b.length c] w (Ay b F0 w0 R):=by
 have HS:Hid (Es b F0 w0 R (.slice none 0 0) (.int .i64 0) w):=Lib.hid ⟨0,[],[],rfl,Nat.zero_le _,rfl,Nat.zero_le _,by simp,h.dz _ _⟩
 have HB:=Lib.hid hb
 have hcap:=hb.cap
 clear h hb
 go_enter Tryz.func222,Tryz.ntmps222
 go_wp2_with fail
 go_loopw [5,6] (Es b F0 w0 R) (fun _ k _=>b.length - (intOf k).toNat)
 case atStart=>exact HS.out
 case round=>
  obtain⟨n,fs,vs,rfl,hn,hvs,hfn,hsc,ho⟩:=hrel
  clear HS
  obtain⟨Fr,hr⟩:=ho.get 0 rfl
  obtain⟨a,cap,rfl,-,-,-⟩:=hr.shape
  clear hr
  by_cases hlt:n < b.length
  ·have hlt':(n:Int) < (b.length:Int):=by omega
   obtain⟨g,o,rfl⟩:∃ g o,A=some ⟨g,o,none⟩:=by
    rcases HB.out.ad with rfl | h
    ·have:=(HB.out.nil rfl).2;subst this;simp at hlt
    ·exact h
   have r1:(Instr.slice 65 (.slice (some ⟨g,o,none⟩) b.length c) (some (.int .i64 n)) none none).run Tryz.prog wr=.ok (.slice (some ⟨g,o+n,none⟩) (b.length - n:Nat) (c - n)) wr:=by
    have:=qL Tryz.underlying65 infoByte (some ⟨g,o,none⟩) b.length c n (by omega) wr
    rw [this,Ed,if_neg (by omega)]
    simp [lq]
   have hb2:Bytes F0 w0 (ay 86 3 (.slice a fs.length cap) fs.length (flatFr fs vs)::(bodiesR vs fs++R)) (some ⟨g,o+n,none⟩) (c - n) (b.drop n):=
    ⟨fun w' h'=>by rw [List.length_drop];exact Aw (HB.out.src w' h'.drop.right) rfl hlt,(fun e=>by cases e),Or.inr ⟨_,_,rfl⟩,by rw [List.length_drop];omega,by have:=HB.out.room;omega⟩
   have C1:=Hm ho hb2 (by rw [List.length_drop];omega)
   have hdl:(b.drop n).length=b.length - n:=List.length_drop
   rw [hdl] at C1
   have K1:=Lib.hid C1
   have hstep:(bq (b.drop n)).2.2=0→bO b=((fs++[(bq (b.drop n)).1])++(bO (b.drop (n+(bq (b.drop n)).2.1))).1,(n+(bq (b.drop n)).2.1)+(bO (b.drop (n+(bq (b.drop n)).2.1))).2.1,(bO (b.drop (n+(bq (b.drop n)).2.1))).2.2):=fun h0=>by
    rw [hsc,oL h0,List.drop_drop]
    simp [Nat.add_assoc]
   have hend:(bq (b.drop n)).2.2≠0→bO b=(fs,n,(bq (b.drop n)).2.2):=fun h0=>by
    rw [hsc,uS (by intro e;have:=congrArg List.length e;rw [hdl] at this;simp at this;omega) h0]
    simp
   have htk:(bq (b.drop n)).2.2=0→16≤(bq (b.drop n)).2.1∧n+(bq (b.drop n)).2.1≤b.length:=fun h0=>by
    obtain⟨k1,k2,_⟩:=nN h0
    rw [hdl] at k2;exact⟨k1,by omega⟩
   have HST:=Lib.hid hstep
   have HEN:=Lib.hid hend
   have Zl:=Lib.hid htk
   have HV:=Lib.hid hvs
   clear ho hsc hb2 C1 hdl hstep hend htk hvs hlt
   go_wp2_with fail
   refine K1.out.mono ?_
   rintro e w1 ⟨vb,rfl,g1⟩
   clear K1
   obtain⟨Fb,hrb⟩:=g1.get 0 rfl
   obtain⟨ab,cb,rfl,-,-,-⟩:=hrb.shape
   clear hrb
   by_cases h0:(bq (b.drop n)).2.2=0
   ·obtain⟨k1,k2⟩:=Zl.out h0
    have HSC:=Lib.hid (HST.out h0)
    have G1:=Lib.hid g1
    clear HST HEN g1
    generalize hT:bq (b.drop n)=T at *
    obtain⟨⟨kd,vd,body⟩,m,er⟩:=T
    simp only at h0 k1 k2 HSC G1 ⊢
    subst h0
    clear hT
    have H2:=Lib.hid (G1.out.cells #[.int .i64 kd,.int .i64 vd,.slice ab body.length cb] 86)
    have h3:=H2.out.cells #[.int .i64 kd,.int .i64 vd,.slice ab body.length cb] 86
    simp only [World.size_alloc] at h3
    have H3:=Lib.hid h3
    clear h3
    have sb:=H3.out.block 0 rfl
    have SB:=Lib.hid (Src.of_block (k:=3) sb rfl)
    clear G1 sb
    go_wp2_with (at_builtin;refine iG rfl H3.out 3 rfl (.tmp 27) (.tmp 29) 175 (by rfl) Tryz.underlying175 CZ (by decide) (by decide) (by rfl) (by rfl) SB.out (fun u hu=>by simp at hu;rcases hu with rfl | rfl | rfl <;> rfl) (by omega) ?_)
    intro v' w3 ho hg
    obtain⟨Fw,hw⟩:=ho.get 3 rfl
    obtain⟨aw,cw,rfl,-,-,-⟩:=hw.shape
    have HR:Hid (Es b F0 w0 R (.slice aw (fs.length+1) cw) (.int .i64 (n+m)) w3):=Lib.hid (by
     refine⟨n+m,fs++[⟨kd,vd,body⟩],vs++[.slice ab body.length cb],by go_num,k2,by simp [HV.out],by simp;omega,HSC.out,?_⟩
     rw [sI _ _ HV.out,rD _ _ HV.out,List.length_append]
     have h4:=ho.drop.drop
     have h5:In F0 w0 w3 (nz (.slice ab body.length cb) ⟨kd,vd,body⟩::ay 86 3 (.slice aw (fs.length+1) cw) (fs.length+1) (flatFr fs vs++wC ⟨kd,vd,body⟩ (.slice ab body.length cb))::(bodiesR vs fs++R)):=h4
     refine h5.perm ?_
     refine (List.Perm.swap _ _ _).trans (List.Perm.cons _ ?_)
     rw [List.append_assoc]
     exact List.perm_middle.symm)
    clear ho hg hw H2 H3 HSC HV Zl SB
    go_wp2_with fail
    go_roundw
    case rel=>exact HR.out
    case measure=>simp [intOf];omega
   ·have q:((bq (b.drop n)).2.2 != 0)=true:=by rw [bne_iff_ne];exact h0
    have HF:Hid (∀ w',In F0 w0 w' (ay 86 3 (.slice a fs.length cap) fs.length (flatFr fs vs)::(bodiesR vs fs++R))→Ay b F0 w0 R (.returned (.tuple #[.slice a fs.length cap,.int .i64 n,.int .i64 (bq (b.drop n)).2.2])) w'):=Lib.hid fun w' h'=>by
     refine⟨_,by rw [HEN.out h0],?_⟩
     rw [HEN.out h0]
     exact uh HV.out h'
    have G1:=Lib.hid (fun o=>HF.out _ (g1.drop.alloc o))
    clear HST HEN Zl g1 HF h0
    generalize bq (b.drop n)=T at *
    go_wp2_with fail
    go_ret3
    exact G1.out _
  ·have hge:(b.length:Int)≤(n:Int):=by omega
   have hnl:n=b.length:=by omega
   have HF:Hid (Ay b F0 w0 R (.returned (.tuple #[.slice a fs.length cap,.int .i64 n,.int .i64 0])) wr):=Lib.hid (by
    have e:bO b=(fs,n,0):=by rw [hsc,hnl,List.drop_length,qQ];simp
    exact⟨_,by rw [e],by rw [e];exact uh hvs ho⟩)
   clear ho hsc hvs hlt hnl
   go_wp2_with fail
   go_ret3
   exact HF.out
end
end Go.Proofs.YtanhdliaaccacaaGreat
