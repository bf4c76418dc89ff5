/- Rows.StoreRefusesSaid -/
import Derived.Test.YtpmmiljakbojaaaGreatRF4
import Derived.Test.YtpmmiljakbojaaaGreatRF6
import Derived.Lib.SlBytesConst
namespace Go.Proofs.YtpmmiljakbojaaaGreat
open Go.RowKit
set_option linter.unusedVariables false
set_option maxHeartbeats 64000000
set_option maxRecDepth 100000
section
variable {F0:List Nat} {w0 w:World} {R:List Asrt}
theorem w_new {g:Nat} (h:In F0 w0 w (Cells g #[.slice none 0 0] 143::R)):In F0 w0 w (WA g []::R):=by
 have h1:=h.rownil 5 1
 exact h1.fold (C:=WA g []) 0 rfl (WA.framed _ _) (fun F hF=>⟨_,hF⟩)
theorem src_bytes {g:Nat} {C:Array Value} {T:TypeId} {fz:Nat×Nat} {bs:List UInt8} (h:w.heap[g]?=some (.cells C T fz)) (hc:C.toList=u8s bs):Src w (some ⟨g,0,none⟩) bs.length 1 (u8s bs):=
 ⟨by rw [u8s_length,Nat.mul_one],fun _=>⟨_,rfl,fun j u hu=>by rw [add_at,Nat.zero_add];exact cell_of h (by rw [← hc,Array.getElem?_toList] at hu;exact hu)⟩⟩
def PutPost (kind ver:Int) (body:List UInt8) (F0:List Nat) (w0:World) (R:List Asrt) (e:Ending) (w':World):Prop:=
 ∃ v,e=.returned (.tuple #[v,.int .i64 (putErr kind ver body.length)])∧In F0 w0 w' (RowA 5 1 v (putB kind ver body).length (u8s (putB kind ver body))::R)
theorem o_frput (h:In F0 w0 w R) (kind ver:Int) {A:Option Addr} {c:Nat} {body:List UInt8} (hl:body.length≤10000000) (hs:∀ w',In F0 w0 w' R→Src w' A body.length 1 (u8s body)) :
  Calls Tryz.prog 72 #[.agg #[.int .i64 kind,.int .i64 ver,.slice A body.length c]] w (PutPost kind ver body F0 w0 R):=by
 have h1:=h.cells #[.int .i64 kind,.int .i64 ver,.slice A body.length c] 74
 have HERR:Hid (∀ e,putErr kind ver body.length=e→e≠0→PutPost kind ver body F0 w0 R (.returned (.tuple #[.slice none 0 0,.int .i64 e])) (w.alloc (.cells #[.int .i64 kind,.int .i64 ver,.slice A body.length c] 74))):=Lib.hid fun e he hne=>by
  have e2:putB kind ver body=[]:=by unfold putB;rw [he,if_neg hne]
  exact⟨_,by rw [he],by rw [e2];exact h1.drop.rownil _ _⟩
 have H1:=Lib.hid h1
 have HS:=Lib.hid hs
 by_cases hk:kind < 0∨255 < kind∨ver < 0∨255 < ver
 ·have HE:=Lib.hid (HERR.out 1 (by unfold putErr;rw [if_pos hk]) (by omega))
  clear h h1 hs HERR H1 HS
  by_cases k1:kind < 0
  ·clear hk
   go_enter Tryz.func72,Tryz.ntmps72
   go_wp2_with fail
   go_ret2
   exact HE.out
  ·by_cases k2:255 < kind
   ·clear hk
    go_enter Tryz.func72,Tryz.ntmps72
    go_wp2_with fail
    go_ret2
    exact HE.out
   ·by_cases k3:ver < 0
    ·clear hk
     go_enter Tryz.func72,Tryz.ntmps72
     go_wp2_with fail
     go_ret2
     exact HE.out
    ·have k4:255 < ver:=by omega
     clear hk
     go_enter Tryz.func72,Tryz.ntmps72
     go_wp2_with fail
     go_ret2
     exact HE.out
 ·have k1:0≤kind:=by omega
  have k2:kind≤255:=by omega
  have k3:0≤ver:=by omega
  have k4:ver≤255:=by omega
  by_cases hb:4096 < body.length
  ·have HE:=Lib.hid (HERR.out 4 (by unfold putErr;rw [if_neg hk,if_pos hb]) (by omega))
   have hb':(4096:Int) < (body.length:Int):=by omega
   clear h h1 hs HERR H1 HS hk hb
   go_enter Tryz.func72,Tryz.ntmps72
   go_wp2_with fail
   go_ret2
   exact HE.out
  ·have e0:putErr kind ver body.length=0:=by unfold putErr;rw [if_neg hk,if_neg hb]
   have e1:putB kind ver body=frBytes ⟨kind.toNat,ver.toNat,body⟩:=by unfold putB;rw [if_pos e0]
   have HP:Hid (∀ w' v,In F0 w0 w' (RowA 5 1 v (frBytes ⟨kind.toNat,ver.toNat,body⟩).length (u8s (frBytes ⟨kind.toNat,ver.toNat,body⟩))::R)→PutPost kind ver body F0 w0 R (.returned (.tuple #[v,.int .i64 0])) w'):=Lib.hid fun w' v h'=>⟨v,by rw [e0],by rw [e1];exact h'⟩
   have hbl:(body.length:Int)≤4096:=by omega
   have eh:frHead kind.toNat ver.toNat body.length=mark++be (u64 kind) 1++be (u64 ver) 1++be (u64 body.length) 2:=by
    have a1:u64 kind=kind.toNat:=by unfold u64;omega
    have a2:u64 ver=ver.toNat:=by unfold u64;omega
    have a3:u64 (body.length:Int)=body.length:=by unfold u64;omega
    rw [a1,a2,a3];rfl
   have ef:frBytes ⟨kind.toNat,ver.toNat,body⟩=frHead kind.toNat ver.toNat body.length++be (u64 (crc (frHead kind.toNat ver.toNat body.length))) 4++be (u64 (crc body)) 4++body:=by
    have a1:∀ b,u64 (crc b:Int)=crc b:=fun b=>by have:=crc_lt b;unfold u64;omega
    rw [a1,a1];rfl
   have EH:=Lib.hid eh
   have EF:=Lib.hid ef
   have hc1:=crc_lt (frHead kind.toNat ver.toNat body.length)
   have hc2:=crc_lt body
   have hh:(frHead kind.toNat ver.toNat body.length).length=8:=frHead_length _ _ _
   have HH:=Lib.hid hh
   have d0:∀ w',In F0 w0 w' (Cells w.heap.size #[.int .i64 kind,.int .i64 ver,.slice A body.length c] 74::R)→w'.cell? ⟨w.heap.size,0,none⟩=some (.int .i64 kind)∧w'.cell? ⟨w.heap.size,1,none⟩=some (.int .i64 ver)∧w'.cell? ⟨w.heap.size,2,none⟩=some (.slice A body.length c):=
    fun w' h'=>⟨cell_of (h'.block 0 rfl) rfl,cell_of (h'.block 0 rfl) rfl,cell_of (h'.block 0 rfl) rfl⟩
   have D0:=Lib.hid d0
   -- the writer,and its first bytes
   have h2:=w_new ((h1.cells #[.slice none 0 0] 143))
   simp only [World.size_alloc] at h2
   have kc:=Lib.run_convert_bytes_const (P:=Tryz.prog) ((w.alloc (.cells #[.int .i64 kind,.int .i64 ver,.slice A body.length c] 74)).alloc (.cells #[.slice none 0 0] 143)) 41 5 #[.int .u8 103,.int .u8 111,.int .u8 105,.int .u8 116] 4 4 Tryz.underlying41 Tryz.underlying5
   simp only [World.size_alloc] at kc
   have h3:=h2.alloc (.cells #[.int .u8 103,.int .u8 111,.int .u8 105,.int .u8 116] 5 (4,5))
   have s3:Src (((w.alloc (.cells #[.int .i64 kind,.int .i64 ver,.slice A body.length c] 74)).alloc (.cells #[.slice none 0 0] 143)).alloc (.cells #[.int .u8 103,.int .u8 111,.int .u8 105,.int .u8 116] 5 (4,5))) (some ⟨w.heap.size+1+1,0,none⟩) mark.length 1 (u8s mark):=by
    refine src_bytes (hp_alloc_at ?_) rfl
    simp
   have C1:=Lib.hid (o_wraw (c:=4) h3 0 rfl (by simp) s3 (by decide))
   clear h h1 hs HERR H1 h2 h3 s3 hk hb e0 e1 eh ef hh d0
   go_enter Tryz.func72,Tryz.ntmps72
   go_wp2_with fail
   refine C1.out.mono ?_
   rintro e w1 ⟨rfl,g1⟩
   clear C1 kc
   have l1:([]++mark).length≤1000000:=by decide
   have C2:=Lib.hid (o_wu8 g1 0 rfl l1 kind)
   obtain⟨d0,d1,d2⟩:=D0.out w1 g1.drop
   clear g1 l1
   go_wp2_with fail
   refine C2.out.mono ?_
   rintro e w2 ⟨rfl,g2⟩
   clear C2 d0 d1 d2
   have C3:=Lib.hid (o_wu8 g2 0 rfl (by simp [mark,be_length]) ver)
   obtain⟨d0,d1,d2⟩:=D0.out w2 g2.drop
   clear g2
   go_wp2_with fail
   refine C3.out.mono ?_
   rintro e w3 ⟨rfl,g3⟩
   clear C3 d0 d1 d2
   have C4:=Lib.hid (o_wu16 g3 0 rfl (by simp [mark,be_length]) body.length)
   obtain⟨d0,d1,d2⟩:=D0.out w3 g3.drop
   clear g3
   go_wp2_with fail
   refine C4.out.mono ?_
   rintro e w4 ⟨rfl,g4⟩
   clear C4 d0 d1 d2
   have g4':In F0 w0 w4 (WA (w.heap.size+1) (frHead kind.toNat ver.toNat body.length)::Cells w.heap.size #[.int .i64 kind,.int .i64 ver,.slice A body.length c] 74::R):=by rw [EH.out];exact g4
   clear g4 EH
   have C5:=Lib.hid (o_wbytes g4' 0 rfl (by rw [HH.out];omega))
   clear g4'
   go_wp2_with fail
   refine C5.out.mono ?_
   rintro e w5 ⟨v5,rfl,g5⟩
   clear C5
   obtain⟨F5,r5⟩:=g5.get 0 rfl
   obtain⟨a5,c5,rfl,-,-,-⟩:=r5.shape
   have C6:=Lib.hid (crc_call (c:=c5) r5.all (by rw [HH.out];omega))
   have C7:=Lib.hid (o_wu32 g5 1 rfl (by rw [HH.out];omega) (n:=(crc (frHead kind.toNat ver.toNat body.length):Int)) (by omega) (by omega))
   clear g5 r5
   go_wp2_with fail
   refine C6.out.mono ?_
   rintro e w6 ⟨rfl,rfl⟩
   clear C6
   go_wp2_with fail
   refine C7.out.mono ?_
   rintro e w7 ⟨rfl,g7⟩
   clear C7
   have g7':=g7.drop
   obtain⟨d0,d1,d2⟩:=D0.out w7 g7'.drop
   have C8:=Lib.hid (crc_call (c:=c) (HS.out w7 g7'.drop.drop) (by omega))
   have C9:=Lib.hid (o_wu32 g7' 0 rfl (by simp only [List.length_append,be_length,HH.out];omega) (n:=(crc body:Int)) (by omega) (by omega))
   clear g7 g7'
   go_wp2_with fail
   refine C8.out.mono ?_
   rintro e w8 ⟨rfl,rfl⟩
   clear C8
   go_wp2_with fail
   refine C9.out.mono ?_
   rintro e w9 ⟨rfl,g9⟩
   clear C9 d0 d1 d2
   obtain⟨d0,d1,d2⟩:=D0.out w9 g9.drop
   have C10:=Lib.hid (o_wraw (c:=c) g9 0 rfl (by simp only [List.length_append,be_length,HH.out];omega) (HS.out w9 g9.drop.drop) hl)
   clear g9
   go_wp2_with fail
   refine C10.out.mono ?_
   rintro e w10 ⟨rfl,g10⟩
   clear C10 d0 d1 d2
   have g10':In F0 w0 w10 (WA (w.heap.size+1) (frBytes ⟨kind.toNat,ver.toNat,body⟩)::Cells w.heap.size #[.int .i64 kind,.int .i64 ver,.slice A body.length c] 74::R):=by rw [EF.out];exact g10
   clear g10 EF
   have C11:=Lib.hid (o_wbytes g10' 0 rfl (by rw [frBytes_length];simp only;omega))
   clear g10'
   go_wp2_with fail
   refine C11.out.mono ?_
   rintro e w11 ⟨v11,rfl,g11⟩
   have HF:=Lib.hid (HP.out w11 v11 (g11.sel2 (R1:=[_,_,_]) [0] (by decide) rfl))
   clear g11 C11 HP
   go_wp2_with fail
   go_ret2
   exact HF.out
end
section
variable {F0:List Nat} {w0 w:World} {R:List Asrt}
theorem src_take {A:Option Addr} {n m:Nat} {bs:List UInt8} (h:Src w A n 1 (u8s bs)) (hn:bs.length=n) (hm:m≤n):Src w A m 1 (u8s (bs.take m)):=by
 refine⟨by rw [u8s_length,List.length_take];omega,fun h0=>?_⟩
 obtain⟨ad,e,hc⟩:=h.at' (by omega)
 refine⟨ad,e,fun j u hu=>hc j u ?_⟩
 rw [← u8s_take,List.getElem?_take] at hu
 split at hu
 ·exact hu
 ·cases hu
theorem src_drop {g o n i:Nat} {bs:List UInt8} (h:Src w (some ⟨g,o,none⟩) n 1 (u8s bs)) (hn:bs.length=n) (hi:i < n):Src w (some ⟨g,o+i,none⟩) (n - i) 1 (u8s (bs.drop i)):=by
 refine⟨by rw [u8s_length,List.length_drop];omega,fun h0=>?_⟩
 obtain⟨ad,e,hc⟩:=h.at' (by omega)
 cases e
 refine⟨_,rfl,fun j u hu=>?_⟩
 rw [← u8s_drop,List.getElem?_drop] at hu
 have:=hc _ u hu
 rw [add_at] at this ⊢
 rwa [Nat.add_assoc]
theorem run_mid (g o:Nat) (n cap i j:Nat) (h0:i < cap) (h1:i≤j) (h2:j≤cap) (w:World) :
  (Instr.slice 41 (.slice (some ⟨g,o,none⟩) n cap) (some (.int .i64 i)) (some (.int .i64 j)) none).run Tryz.prog w=.ok (.slice (some ⟨g,o+i,none⟩) (j - i) (cap - i)) w:=by
 have he:Tryz.prog.elem 41=5:=by simp [Program.elem,Tryz.underlying41]
 have hs:(sizeOf 5).run Tryz.prog w=.ok 1 w:=by
  have hinf:=infoByte
  cases e:Tryz.prog.info? 5 with
  | none=>rw [e] at hinf;cases hinf
  | some i0=>
   rw [e] at hinf
   simp only [Option.map_some,Option.some.injEq,Prod.mk.injEq] at hinf
   simp [sizeOf,typeInfo,e,hinf.2.1]
 have:=run_slice_lh (P:=Tryz.prog) w 41 (some ⟨g,o,none⟩) n cap (by rw [he];exact Tryz.underlying41) .i64 .i64 (i:Int) (j:Int) (by omega) (by omega) (by omega)
 rw [this,he,hs]
 have hne:¬ cap=i:=by omega
 simp [Result.andThen,sliced,add_at,hne]
theorem run_mid_end (g o:Nat) (n cap:Nat) (w:World) :
  (Instr.slice 41 (.slice (some ⟨g,o,none⟩) n cap) (some (.int .i64 cap)) (some (.int .i64 cap)) none).run Tryz.prog w=.ok (.slice (some ⟨g,o,none⟩) 0 0) w:=by
 have he:Tryz.prog.elem 41=5:=by simp [Program.elem,Tryz.underlying41]
 have hs:(sizeOf 5).run Tryz.prog w=.ok 1 w:=by
  have hinf:=infoByte
  cases e:Tryz.prog.info? 5 with
  | none=>rw [e] at hinf;cases hinf
  | some i0=>
   rw [e] at hinf
   simp only [Option.map_some,Option.some.injEq,Prod.mk.injEq] at hinf
   simp [sizeOf,typeInfo,e,hinf.2.1]
 have:=run_slice_lh (P:=Tryz.prog) w 41 (some ⟨g,o,none⟩) n cap (by rw [he];exact Tryz.underlying41) .i64 .i64 (cap:Int) (cap:Int) (by omega) (by omega) (by omega)
 rw [this,he,hs]
 simp [Result.andThen,sliced]
theorem rdTake_ok {l:List UInt8} {n:Nat} (h:n≤l.length):rdTake l 0 n=(l.take n,l.drop n,0):=by unfold rdTake;rw [if_neg (by simp),if_neg (by omega)]
def TakeFrPost (b:List UInt8) (F0:List Nat) (w0:World) (R:List Asrt) (e:Ending) (w':World):Prop:=
 ∃ v,e=.returned (.tuple #[.agg #[.int .i64 (frTake b).1.kind,.int .i64 (frTake b).1.ver,v],.int .i64 (frTake b).2.1,.int .i64 (frTake b).2.2]) ∧
  In F0 w0 w' (RowA 5 1 v (frTake b).1.body.length (u8s (frTake b).1.body)::R)
structure Bytes (F0:List Nat) (w0:World) (R:List Asrt) (A:Option Addr) (c:Nat) (b:List UInt8):Prop where
 src:∀ w',In F0 w0 w' R→Src w' A b.length 1 (u8s b)
 nil:A=none→c=0∧b=[]
 ad:A=none∨∃ g o,A=some ⟨g,o,none⟩
 cap:b.length≤c
 room:c≤maxLen
theorem In.set3 {g:Nat} {a b c:Value} {T:TypeId} (h:In F0 w0 w (Cells g #[a,b,c] T::R)) (x y z:Value):In F0 w0 (((w.setCell ⟨g,0,none⟩ x).setCell ⟨g,1,none⟩ y).setCell ⟨g,2,none⟩ z) (Cells g #[x,y,z] T::R):=
 ((h.put 0 rfl 0 x).put 0 rfl 1 y).put 0 rfl 2 z
theorem set_cell_same {g:Nat} {C:Array Value} {T:TypeId} {fz:Nat×Nat} (h:w.heap[g]?=some (.cells C T fz)) {o:Nat} (ho:o < C.size) (v:Value):(w.setCell ⟨g,o,none⟩ v).cell? ⟨g,o,none⟩=some v:=
 cell_of (hp_setCell_same h) (by simp [ho])
theorem o_frtake (h:In F0 w0 w R) {A:Option Addr} {c:Nat} {b:List UInt8} (hb:Bytes F0 w0 R A c b) (hl:b.length≤100000000) :
  Calls Tryz.prog 136 #[.slice A b.length c] w (TakeFrPost b F0 w0 R):=by
 have h1:=h.cells #[.int .i64 0,.int .i64 0,.slice none 0 0] 74
 have hcap:=hb.cap
 by_cases h16:b.length < 16
 ·have e:frTake b=(zeroFr,0,2):=by unfold frTake;rw [if_pos h16]
  have h2:=h1.put 0 rfl 0 (.int .i64 0)
  have HE:Hid (∀ w',In F0 w0 w' R→TakeFrPost b F0 w0 R (.returned (.tuple #[.agg #[.int .i64 0,.int .i64 0,.slice none 0 0],.int .i64 0,.int .i64 2])) w'):=Lib.hid fun w' h'=>⟨_,by rw [e];rfl,by rw [e];exact h'.rownil _ _⟩
  have d0:=fun (w':World) (h':In F0 w0 w' (Cells w.heap.size #[.int .i64 0,.int .i64 0,.slice none 0 0] 74::R))=>cell_of (o:=0) (h'.block 0 rfl) rfl
  have h16':(b.length:Int) < 16:=by omega
  have HI:=Lib.hid h
  clear h h1 h2 hb e hcap h16 d0
  go_enter Tryz.func136,Tryz.ntmps136
  go_wp2_with fail
  exact bodyPost_ret (v:=.tuple #[.agg #[.int .i64 0,.int .i64 0,.slice none 0 0],.int .i64 0,.int .i64 2]) (by simp [results,Tryz.results136,go_sem]) rfl (HE.out _ (HI.out.alloc _))
 ·obtain⟨g,o,rfl⟩:∃ g o,A=some ⟨g,o,none⟩:=by
   rcases hb.ad with rfl | h
   ·have:=(hb.nil rfl).2;subst this;simp at h16
   ·exact h
  have hge:16≤b.length:=by omega
  have hge':(16:Int)≤(b.length:Int):=by omega
  have e16:(b.take 16).length=16:=by rw [List.length_take];omega
  have r16:∀ w,(Instr.slice 41 (.slice (some ⟨g,o,none⟩) b.length c) none (some (.int .i64 16)) none).run Tryz.prog w=.ok (.slice (some ⟨g,o,none⟩) 16 c) w:=fun w=>run_pre_at g o b.length c 16 (by omega) w
  have C1:=o_rnew (A:=some ⟨g,o,none⟩) (c:=c) (bs:=b.take 16) h1 (fun e=>by cases e) (by rw [e16];exact src_take (hb.src _ h1.drop) rfl hge) (by rw [e16];omega)
  rw [e16] at C1
  have K1:=Lib.hid C1
  have HB:=Lib.hid hb
  have R16:=Lib.hid r16
  have seg:∀ k m,k+m≤16→rdTake ((b.take 16).drop k) 0 m=((b.drop k).take m,(b.take 16).drop (k+m),0):=fun k m hkm=>by
   rw [rdTake_ok (by rw [List.length_drop,e16];omega),List.drop_drop,List.drop_take,List.take_take,Nat.min_eq_left (by omega)]
  have SEG:=Lib.hid seg
  have r8:∀ w,(Instr.slice 41 (.slice (some ⟨g,o,none⟩) b.length c) none (some (.int .i64 8)) none).run Tryz.prog w=.ok (.slice (some ⟨g,o,none⟩) 8 c) w:=fun w=>run_pre_at g o b.length c 8 (by omega) w
  have e8:(b.take 8).length=8:=by rw [List.length_take];omega
  have E8:=Lib.hid e8
  clear h h1 hb C1 h16 e16 seg e8
  go_enter Tryz.func136,Tryz.ntmps136
  go_wp2_with fail
  refine K1.out.mono ?_
  rintro e w1 ⟨br,rfl,g1⟩
  clear K1
  have C2:=o_rraw g1 0 rfl 4 (by omega)
  rw [show b.take 16=(b.take 16).drop 0 from rfl,SEG.out 0 4 (by omega)] at C2
  have K2:=Lib.hid C2
  clear g1 C2
  go_wp2_with fail
  refine K2.out.mono ?_
  rintro e w2 ⟨v2,rfl,g2⟩
  clear K2
  have l4:((b.drop 0).take 4).length=4:=by rw [List.length_take,List.length_drop];omega
  simp only [l4] at g2
  obtain⟨x4,hx4⟩:∃ x,(b.drop 0).take 4=x:=⟨_,rfl⟩
  rw [hx4] at g2
  have X4:=Lib.hid hx4
  clear hx4 l4
  obtain⟨F2,hr2⟩:=g2.get 0 rfl
  obtain⟨a2,c2,rfl,-,-,-⟩:=hr2.shape
  have cv:=conv_str (w:=w2) (cap:=c2) hr2.all (fun e=>by
   obtain⟨_,_,h4 | ⟨g',_,_,e',_⟩⟩:=hr2
   ·exact h4.2
   ·cases e';cases e)
  have g2':=g2.drop
  have G2:=Lib.hid g2'
  clear g2 g2' hr2
  obtain⟨bg,hbg⟩:∃ bg,(x4 == [103,111,105,116])=bg:=⟨_,rfl⟩
  have BG:Hid (bg=decide (b.take 4=mark)):=Lib.hid (by
   rw [← hbg,← X4.out,List.drop_zero]
   cases e:(b.take 4 == [103,111,105,116]) with
   | true=>have:b.take 4=mark:=eq_of_beq e;simp [this]
   | false=>have:b.take 4≠mark:=(by intro h;rw [h] at e;exact absurd e (by decide));simp [this])
  go_wp2_with fail
  clear hbg X4 cv
  have C3:=o_ru8 G2.out 0 rfl
  rw [SEG.out 4 1 (by omega)] at C3
  have K3:=Lib.hid C3
  clear C3 G2
  refine K3.out.mono ?_
  rintro e w3 ⟨rfl,g3⟩
  have C4:=o_ru8 g3 0 rfl
  rw [SEG.out 5 1 (by omega)] at C4
  have K4:=Lib.hid C4
  clear C4 g3 K3
  have n4:=num_lt ((b.drop 4).take 1)
  simp only at n4 ⊢
  obtain⟨kd,hkd⟩:∃ kd,num ((b.drop 4).take 1)=kd:=⟨_,rfl⟩
  rw [hkd]
  have KD:=Lib.hid hkd
  clear hkd n4
  go_wp2_with fail
  refine K4.out.mono ?_
  rintro e w4 ⟨rfl,g4⟩
  have C5:=o_ru16 g4 0 rfl
  rw [SEG.out 6 2 (by omega)] at C5
  have K5:=Lib.hid C5
  clear C5 g4 K4
  simp only
  obtain⟨vd,hvd⟩:∃ kd,num ((b.drop 5).take 1)=kd:=⟨_,rfl⟩
  rw [hvd]
  have VD:=Lib.hid hvd
  clear hvd
  go_wp2_with fail
  refine K5.out.mono ?_
  rintro e w5 ⟨rfl,g5⟩
  have C6:=o_ru32 g5 0 rfl
  rw [SEG.out 8 4 (by omega)] at C6
  have K6:=Lib.hid C6
  clear C6 g5 K5
  simp only
  have n6:num ((b.drop 6).take 2) < 65536:=by
   have:=num_lt_of (bs:=(b.drop 6).take 2) (k:=2) (by rw [List.length_take];omega)
   simpa using this
  obtain⟨sz,hsz⟩:∃ kd,num ((b.drop 6).take 2)=kd:=⟨_,rfl⟩
  rw [hsz] at n6 ⊢
  have SZ:=Lib.hid hsz
  clear hsz
  go_wp2_with fail
  refine K6.out.mono ?_
  rintro e w6 ⟨rfl,g6⟩
  have C7:=o_ru32 g6 0 rfl
  rw [SEG.out 12 4 (by omega)] at C7
  have K7:=Lib.hid C7
  clear C7 g6 K6 SEG
  simp only
  obtain⟨hd,hhd⟩:∃ kd,num ((b.drop 8).take 4)=kd:=⟨_,rfl⟩
  rw [hhd]
  have HD:=Lib.hid hhd
  clear hhd
  go_wp2_with fail
  refine K7.out.mono ?_
  rintro e w7 ⟨rfl,g7⟩
  have g7':=g7.drop
  simp only
  obtain⟨wh,hwh⟩:∃ kd,num ((b.drop 12).take 4)=kd:=⟨_,rfl⟩
  rw [hwh]
  have WH:=Lib.hid hwh
  clear hwh g7 K7
  have hf:frTake b=if bg=false then (zeroFr,0,3) else if hd≠crc (b.take 8) then (zeroFr,0,5) else if 4096 < sz then (zeroFr,0,4) else if b.length - 16 < sz then (zeroFr,0,2) else if wh≠crc ((b.drop 16).take sz) then (zeroFr,0,5) else (⟨kd,vd,(b.drop 16).take sz⟩,16+sz,0):=by
   rw [BG.out,← HD.out,← SZ.out,← WH.out,← KD.out,← VD.out]
   unfold frTake
   rw [if_neg (by omega)]
   simp
  have HF:=Lib.hid hf
  have blk:=g7'.block 0 rfl
  have d0:w7.cell? ⟨w.heap.size,0,none⟩=some (.int .i64 0):=cell_of blk rfl
  have d1:w7.cell? ⟨w.heap.size,1,none⟩=some (.int .i64 0):=cell_of blk rfl
  have d2:w7.cell? ⟨w.heap.size,2,none⟩=some (.slice none 0 0):=cell_of blk rfl
  have f0:w7.frozen? ⟨w.heap.size,0,none⟩=false:=free_of blk
  have f1:w7.frozen? ⟨w.heap.size,1,none⟩=false:=free_of blk
  have f2:w7.frozen? ⟨w.heap.size,2,none⟩=false:=free_of blk
  have y0:∀ x,(w7.setCell ⟨w.heap.size,0,none⟩ x).cell? ⟨w.heap.size,0,none⟩=some x:=fun x=>set_cell_same blk (by simp) x
  have y1:∀ x y,((w7.setCell ⟨w.heap.size,0,none⟩ x).setCell ⟨w.heap.size,1,none⟩ y).cell? ⟨w.heap.size,1,none⟩=some y:=fun x y=>set_cell_same (hp_setCell_same blk) (by simp) y
  have y2:∀ x y z,(((w7.setCell ⟨w.heap.size,0,none⟩ x).setCell ⟨w.heap.size,1,none⟩ y).setCell ⟨w.heap.size,2,none⟩ z).cell? ⟨w.heap.size,2,none⟩=some z:=fun x y z=>set_cell_same (hp_setCell_same (hp_setCell_same blk)) (by simp) z
  have Y:=Lib.hid (And.intro y0 (And.intro y1 y2))
  clear y0 y1 y2
  have HERR:Hid (∀ e:Int,frTake b=(zeroFr,0,e)→TakeFrPost b F0 w0 R (.returned (.tuple #[.agg #[.int .i64 0,.int .i64 0,.slice none 0 0],.int .i64 0,.int .i64 e])) (((w7.setCell ⟨w.heap.size,0,none⟩ (.int .i64 0)).setCell ⟨w.heap.size,1,none⟩ (.int .i64 0)).setCell ⟨w.heap.size,2,none⟩ (.slice none 0 0))):=
   Lib.hid fun e he=>⟨_,by rw [he];rfl,by rw [he];exact (g7'.set3 _ _ _).drop.rownil _ _⟩
  have K8:=crc_call (c:=c) (bs:=b.take 8) (by rw [E8.out];exact src_take (m:=8) (HB.out.src w7 g7'.drop) rfl (by omega)) (by rw [E8.out];omega)
  rw [E8.out] at K8
  have C8:=Lib.hid K8
  have G7:=Lib.hid g7'
  have r8':=r8 w7
  clear hf g7' blk K8 R16 r16 r8 KD VD HD WH SZ
  cases bg with
  | false=>
   have HE:=Lib.hid (HERR.out 3 (by rw [HF.out];rfl))
   clear HERR HF BG C8
   go_wp2_with fail
   exact bodyPost_ret (v:=.tuple #[.agg #[.int .i64 0,.int .i64 0,.slice none 0 0],.int .i64 0,.int .i64 3]) (by simp [results,Tryz.results136,go_sem,Y.out.1,Y.out.2.1,Y.out.2.2]) rfl HE.out
  | true=>
   go_wp2_with fail
   refine C8.out.mono ?_
   rintro e w8 ⟨rfl,rfl⟩
   clear C8
   have hf:=HF.out
   simp only [Bool.true_eq_false,if_false] at hf
   by_cases hc:hd=crc (b.take 8)
   ·have q8:((hd:Int) != (crc (b.take 8):Int))=false:=by rw [hc];simp
    rw [if_neg (by simpa using hc)] at hf
    have n8:=crc_lt (b.take 8)
    clear hc BG HF
    generalize crc (b.take 8)=cr at *
    by_cases h4:4096 < sz
    ·have HE:=Lib.hid (HERR.out 4 (by rw [hf,if_pos h4]))
     have h4':(4096:Int) < (sz:Int):=by omega
     clear HERR hf h4
     go_wp2_with fail
     exact bodyPost_ret (v:=.tuple #[.agg #[.int .i64 0,.int .i64 0,.slice none 0 0],.int .i64 0,.int .i64 4]) (by simp [results,Tryz.results136,go_sem,Y.out.1,Y.out.2.1,Y.out.2.2]) rfl HE.out
    ·rw [if_neg h4] at hf
     by_cases h2:b.length - 16 < sz
     ·have HE:=Lib.hid (HERR.out 2 (by rw [hf,if_pos h2]))
      have h2':(b.length:Int) - 16 < (sz:Int):=by omega
      clear HERR hf h2
      go_wp2_with fail
      exact bodyPost_ret (v:=.tuple #[.agg #[.int .i64 0,.int .i64 0,.slice none 0 0],.int .i64 0,.int .i64 2]) (by simp [results,Tryz.results136,go_sem,Y.out.1,Y.out.2.1,Y.out.2.2]) rfl HE.out
     ·rw [if_neg h2] at hf
      have HF2:=Lib.hid hf
      have hsz:16+sz≤b.length:=by omega
      have hszl:((b.drop 16).take sz).length=sz:=by rw [List.length_take,List.length_drop];omega
      have HZ:=Lib.hid hszl
      have hsub:(sz:Int)≤(b.length:Int) - 16:=by omega
      obtain⟨o',c',rm,sm⟩:∃ o' c',(Instr.slice 41 (.slice (some ⟨g,o,none⟩) b.length c) (some (.int .i64 16)) (some (.int .i64 (16+(sz:Int)))) none).run Tryz.prog w8=.ok (.slice (some ⟨g,o',none⟩) sz c') w8∧Src w8 (some ⟨g,o',none⟩) sz 1 (u8s ((b.drop 16).take sz)):=by
       by_cases hlt:16 < c
       ·refine⟨o+16,c - 16,?_,?_⟩
        ·have:=run_mid g o b.length c 16 (16+sz) hlt (by omega) (by omega) w8
         rw [show 16+sz - 16=sz by omega] at this
         exact this
        ·by_cases hz:16 < b.length
         ·have s1:=src_drop (HB.out.src w8 G7.out.drop) rfl hz
          exact src_take s1 (by rw [List.length_drop]) (by omega)
         ·obtain rfl:sz=0:=by omega
          exact⟨by rw [u8s_length];simp,fun h0=>by omega⟩
       ·obtain rfl:sz=0:=by omega
        obtain rfl:c=16:=by omega
        exact⟨o,0,run_mid_end g o b.length 16 w8,⟨by rw [u8s_length];simp,fun h0=>by omega⟩⟩
      have C9:=Lib.hid (bclone_some (c:=c') G7.out sm (by omega))
      have HFIN:Hid (∀ w' v,In F0 w0 w' (RowA 5 1 v sz (u8s ((b.drop 16).take sz))::Cells w.heap.size #[.int .i64 0,.int .i64 0,.slice none 0 0] 74::R) →
        (∀ x,(w'.setCell ⟨w.heap.size,0,none⟩ x).cell? ⟨w.heap.size,0,none⟩=some x)∧(∀ x y,((w'.setCell ⟨w.heap.size,0,none⟩ x).setCell ⟨w.heap.size,1,none⟩ y).cell? ⟨w.heap.size,1,none⟩=some y)∧(∀ x y z,(((w'.setCell ⟨w.heap.size,0,none⟩ x).setCell ⟨w.heap.size,1,none⟩ y).setCell ⟨w.heap.size,2,none⟩ z).cell? ⟨w.heap.size,2,none⟩=some z) ∧
        w'.cell? ⟨w.heap.size,0,none⟩=some (.int .i64 0)∧w'.cell? ⟨w.heap.size,1,none⟩=some (.int .i64 0)∧w'.cell? ⟨w.heap.size,2,none⟩=some (.slice none 0 0) ∧
        w'.frozen? ⟨w.heap.size,0,none⟩=false∧w'.frozen? ⟨w.heap.size,1,none⟩=false∧w'.frozen? ⟨w.heap.size,2,none⟩=false ∧
        (wh≠crc ((b.drop 16).take sz)→TakeFrPost b F0 w0 R (.returned (.tuple #[.agg #[.int .i64 0,.int .i64 0,.slice none 0 0],.int .i64 0,.int .i64 5])) (((w'.setCell ⟨w.heap.size,0,none⟩ (.int .i64 0)).setCell ⟨w.heap.size,1,none⟩ (.int .i64 0)).setCell ⟨w.heap.size,2,none⟩ (.slice none 0 0))) ∧
        (wh=crc ((b.drop 16).take sz)→TakeFrPost b F0 w0 R (.returned (.tuple #[.agg #[.int .i64 kd,.int .i64 vd,v],.int .i64 (16+(sz:Int)),.int .i64 0])) (((w'.setCell ⟨w.heap.size,0,none⟩ (.int .i64 kd)).setCell ⟨w.heap.size,1,none⟩ (.int .i64 vd)).setCell ⟨w.heap.size,2,none⟩ v))):=Lib.hid fun w' v h'=>by
       have bk:=h'.block 1 rfl
       refine⟨fun x=>set_cell_same bk (by simp) x,fun x y=>set_cell_same (hp_setCell_same bk) (by simp) y,fun x y z=>set_cell_same (hp_setCell_same (hp_setCell_same bk)) (by simp) z,cell_of bk rfl,cell_of bk rfl,cell_of bk rfl,free_of bk,free_of bk,free_of bk,fun hne=>?_,fun heq=>?_⟩
       ·have he:frTake b=(zeroFr,0,5):=by rw [HF2.out,if_pos hne]
        exact⟨_,by rw [he];rfl,by rw [he];exact (h'.drop.set3 _ _ _).drop.rownil _ _⟩
       ·have he:frTake b=(⟨kd,vd,(b.drop 16).take sz⟩,16+sz,0):=by rw [HF2.out,if_neg (by simpa using heq)]
        have h2:=((h'.put 1 rfl 0 (.int .i64 kd)).put 1 rfl 1 (.int .i64 vd)).put 1 rfl 2 v
        refine⟨v,by rw [he];simp,?_⟩
        rw [he]
        simp only [HZ.out]
        exact h2.sel2 (R1:=[_,_]) [0] (by decide) rfl
      have hbx:∃ body,(b.drop 16).take sz=body:=⟨_,rfl⟩
      obtain⟨body,hbody⟩:=hbx
      rw [hbody] at C9 HFIN HZ
      have h4n:(sz:Int)≤4096:=by omega
      have h4m:sz≤4096:=by omega
      clear hf h2 h4 hszl HF2 HERR sm hbody G7 HB d0 d1 d2 f0 f1 f2
      go_wp2_with fail
      refine C9.out.mono ?_
      rintro e w9 ⟨v9,rfl,g9⟩
      obtain⟨F9,r9⟩:=g9.get 0 rfl
      obtain⟨a9,c9,rfl,-,-,-⟩:=r9.shape
      have C10:=crc_call (c:=c9) (bs:=body) (by rw [HZ.out];exact r9.all) (by rw [HZ.out];omega)
      rw [HZ.out] at C10
      have K10:=Lib.hid C10
      obtain⟨y0,y1,y2,d0,d1,d2,f0,f1,f2,hno,hyes⟩:=HFIN.out w9 _ g9
      have NO:=Lib.hid hno
      have YES:=Lib.hid hyes
      have Y9:=Lib.hid (And.intro y0 (And.intro y1 y2))
      clear g9 r9 C9 C10 HFIN HZ hno hyes y0 y1 y2 rm
      go_wp2_with fail
      refine K10.out.mono ?_
      rintro e w10 ⟨rfl,rfl⟩
      clear K10
      by_cases hwc:wh=crc body
      ·have q9:((wh:Int) != (crc body:Int))=false:=by rw [hwc];simp
       have HE:=Lib.hid (YES.out hwc)
       clear NO YES hwc
       generalize crc body=cb at *
       go_wp2_with fail
       exact bodyPost_ret (v:=.tuple #[.agg #[.int .i64 kd,.int .i64 vd,.slice a9 sz c9],.int .i64 (16+(sz:Int)),.int .i64 0]) (by simp [results,Tryz.results136,go_sem,Y9.out.1,Y9.out.2.1,Y9.out.2.2]) rfl HE.out
      ·have q9:((wh:Int) != (crc body:Int))=true:=by rw [bne_iff_ne];omega
       have HE:=Lib.hid (NO.out hwc)
       clear NO YES hwc
       generalize crc body=cb at *
       go_wp2_with fail
       exact bodyPost_ret (v:=.tuple #[.agg #[.int .i64 0,.int .i64 0,.slice none 0 0],.int .i64 0,.int .i64 5]) (by simp [results,Tryz.results136,go_sem,Y9.out.1,Y9.out.2.1,Y9.out.2.2]) rfl HE.out
   ·have q8:((hd:Int) != (crc (b.take 8):Int))=true:=by rw [bne_iff_ne];omega
    rw [if_pos (by simpa using hc)] at hf
    have HE:=Lib.hid (HERR.out 5 hf)
    clear HERR HF hf hc BG
    generalize crc (b.take 8)=cr at *
    go_wp2_with fail
    exact bodyPost_ret (v:=.tuple #[.agg #[.int .i64 0,.int .i64 0,.slice none 0 0],.int .i64 0,.int .i64 5]) (by simp [results,Tryz.results136,go_sem,Y.out.1,Y.out.2.1,Y.out.2.2]) rfl HE.out
end
def encFr (f:FrD) (v:Value):List Value:=[.int .i64 f.kind,.int .i64 f.ver,v]
def flatFr:List FrD→List Value→List Value
 | f::fs,v::vs=>encFr f v++flatFr fs vs
 | _,_=>[]
def bodyA (v:Value) (f:FrD):Asrt:=RowA 5 1 v f.body.length (u8s f.body)
def bodiesR:List Value→List FrD→List Asrt
 | v::vs,f::fs=>bodyA v f::bodiesR vs fs
 | _,_=>[]
def FrsR (v:Value) (vs:List Value) (fs:List FrD):List Asrt:=RowA 74 3 v fs.length (flatFr fs vs)::bodiesR vs fs
def FrsA (v:Value) (fs:List FrD):Asrt:=fun w F=>∃ vs:List Value,vs.length=fs.length∧Star (FrsR v vs fs) w F
theorem bodiesR.framed:∀ {vs:List Value} {fs:List FrD},∀ A∈bodiesR vs fs,Framed A
 | [],_,A,hA=>by simp [bodiesR] at hA
 | _::_,[],A,hA=>by simp [bodiesR] at hA
 | v::vs,f::fs,A,hA=>by
  rcases List.mem_cons.1 hA with rfl | hA
  ·exact RowA.framed _ _ _ _ _
  ·exact bodiesR.framed A hA
theorem FrsR.framed {v:Value} {vs:List Value} {fs:List FrD}:∀ A∈FrsR v vs fs,Framed A:=by
 intro A hA
 rcases List.mem_cons.1 hA with rfl | hA
 ·exact RowA.framed _ _ _ _ _
 ·exact bodiesR.framed A hA
theorem FrsA.framed (v:Value) (fs:List FrD):Framed (FrsA v fs):=by
 refine⟨?_,?_⟩
 ·rintro w w' F ⟨vs,hl,h⟩ hk;exact⟨vs,hl,(Framed.star FrsR.framed).keep h hk⟩
 ·rintro w F ⟨vs,hl,h⟩;exact (Framed.star FrsR.framed).lt h
theorem flatFr_snoc:∀ {fs:List FrD} {vs:List Value} (f:FrD) (v:Value),vs.length=fs.length→flatFr (fs++[f]) (vs++[v])=flatFr fs vs++encFr f v
 | [],[],f,v,_=>by simp [flatFr]
 | g::fs,u::vs,f,v,h=>by
  simp only [List.length_cons,Nat.add_right_cancel_iff] at h
  show encFr g u++flatFr (fs++[f]) (vs++[v])=encFr g u++flatFr fs vs++encFr f v
  rw [flatFr_snoc f v h,List.append_assoc]
 | [],_::_,_,_,h=>by simp at h
 | _::_,[],_,_,h=>by simp at h
theorem bodiesR_snoc:∀ {vs:List Value} {fs:List FrD} (v:Value) (f:FrD),vs.length=fs.length→bodiesR (vs++[v]) (fs++[f])=bodiesR vs fs++[bodyA v f]
 | [],[],v,f,_=>rfl
 | u::vs,g::fs,v,f,h=>by
  simp only [List.length_cons,Nat.add_right_cancel_iff] at h
  show bodyA u g::bodiesR (vs++[v]) (fs++[f])=_
  rw [bodiesR_snoc v f h];rfl
 | [],_::_,_,_,h=>by simp at h
 | _::_,[],_,_,h=>by simp at h
theorem infoFrame:(Tryz.prog.info? 74).map (fun i=>(i.zero.map (fun z=>z.cells.size),i.size,i.bytes))=some (some 3,3,40):=by kernel_rfl
section
variable {F0:List Nat} {w0 w:World} {R:List Asrt}
theorem In.right {R1 R2:List Asrt} (h:In F0 w0 w (R1++R2)):In F0 w0 w R2:=In.take (h.perm List.perm_append_comm)
def ScanRel (b:List UInt8) (F0:List Nat) (w0:World) (R:List Asrt) (v k:Value) (wr:World):Prop:=
 ∃ (n:Nat) (fs:List FrD) (vs:List Value),k=.int .i64 n∧n≤b.length∧vs.length=fs.length∧fs.length≤n∧frScan b=(fs++(frScan (b.drop n)).1,n+(frScan (b.drop n)).2.1,(frScan (b.drop n)).2.2) ∧
  In F0 w0 wr (RowA 74 3 v fs.length (flatFr fs vs)::(bodiesR vs fs++R))
def ScanPost (b:List UInt8) (F0:List Nat) (w0:World) (R:List Asrt) (e:Ending) (w':World):Prop:=
 ∃ v,e=.returned (.tuple #[v,.int .i64 (frScan b).2.1,.int .i64 (frScan b).2.2])∧In F0 w0 w' (FrsA v (frScan b).1::R)
theorem frs_close {v:Value} {vs:List Value} {fs:List FrD} (hl:vs.length=fs.length) (h:In F0 w0 w (RowA 74 3 v fs.length (flatFr fs vs)::(bodiesR vs fs++R))):In F0 w0 w (FrsA v fs::R):=by
 have h1:=In.join (A1:=FrsR v vs fs) (R:=R) h
 exact h1.imp (A':=FrsA v fs) 0 rfl (FrsA.framed _ _) fun F hF=>⟨vs,hl,hF⟩
theorem o_frscan (h:In F0 w0 w R) {A:Option Addr} {c:Nat} {b:List UInt8} (hb:Bytes F0 w0 R A c b) (hl:b.length≤10000000) :
  Calls Tryz.prog 142 #[.slice A b.length c] w (ScanPost b F0 w0 R):=by
 have HS:Hid (ScanRel b F0 w0 R (.slice none 0 0) (.int .i64 0) w):=Lib.hid ⟨0,[],[],rfl,Nat.zero_le _,rfl,Nat.zero_le _,by simp,h.rownil _ _⟩
 have HB:=Lib.hid hb
 have hcap:=hb.cap
 clear h hb
 go_enter Tryz.func142,Tryz.ntmps142
 go_wp2_with fail
 go_loopw [5,6] (ScanRel b F0 w0 R) (fun _ k _=>b.length - (intOf k).toNat)
 case atStart=>exact HS.out
 case round=>
  obtain⟨n,fs,vs,rfl,hn,hvs,hfn,hsc,ho⟩:=hrel
  clear HS
  obtain⟨Fr,hr⟩:=ho.get 0 rfl
  obtain⟨a,cap,rfl,-,-,-⟩:=hr.shape
  clear hr
  by_cases hlt:n < b.length
  ·have hlt':(n:Int) < (b.length:Int):=by omega
   obtain⟨g,o,rfl⟩:∃ g o,A=some ⟨g,o,none⟩:=by
    rcases HB.out.ad with rfl | h
    ·have:=(HB.out.nil rfl).2;subst this;simp at hlt
    ·exact h
   have r1:(Instr.slice 41 (.slice (some ⟨g,o,none⟩) b.length c) (some (.int .i64 n)) none none).run Tryz.prog wr=.ok (.slice (some ⟨g,o+n,none⟩) (b.length - n:Nat) (c - n)) wr:=by
    have:=run_suffix Tryz.underlying41 infoByte (some ⟨g,o,none⟩) b.length c n (by omega) wr
    rw [this,sufA,if_neg (by omega)]
    simp [add_at]
   have hb2:Bytes F0 w0 (RowA 74 3 (.slice a fs.length cap) fs.length (flatFr fs vs)::(bodiesR vs fs++R)) (some ⟨g,o+n,none⟩) (c - n) (b.drop n):=
    ⟨fun w' h'=>by rw [List.length_drop];exact src_drop (HB.out.src w' h'.drop.right) rfl hlt,(fun e=>by cases e),Or.inr ⟨_,_,rfl⟩,by rw [List.length_drop];omega,by have:=HB.out.room;omega⟩
   have C1:=o_frtake ho hb2 (by rw [List.length_drop];omega)
   have hdl:(b.drop n).length=b.length - n:=List.length_drop
   rw [hdl] at C1
   have K1:=Lib.hid C1
   have hstep:(frTake (b.drop n)).2.2=0→frScan b=((fs++[(frTake (b.drop n)).1])++(frScan (b.drop (n+(frTake (b.drop n)).2.1))).1,(n+(frTake (b.drop n)).2.1)+(frScan (b.drop (n+(frTake (b.drop n)).2.1))).2.1,(frScan (b.drop (n+(frTake (b.drop n)).2.1))).2.2):=fun h0=>by
    rw [hsc,frScan_step h0,List.drop_drop]
    simp [Nat.add_assoc]
   have hend:(frTake (b.drop n)).2.2≠0→frScan b=(fs,n,(frTake (b.drop n)).2.2):=fun h0=>by
    rw [hsc,frScan_end (by intro e;have:=congrArg List.length e;rw [hdl] at this;simp at this;omega) h0]
    simp
   have htk:(frTake (b.drop n)).2.2=0→16≤(frTake (b.drop n)).2.1∧n+(frTake (b.drop n)).2.1≤b.length:=fun h0=>by
    obtain⟨k1,k2,_⟩:=frTake_ok h0
    rw [hdl] at k2;exact⟨k1,by omega⟩
   have HST:=Lib.hid hstep
   have HEN:=Lib.hid hend
   have HTK:=Lib.hid htk
   have HV:=Lib.hid hvs
   clear ho hsc hb2 C1 hdl hstep hend htk hvs hlt
   go_wp2_with fail
   refine K1.out.mono ?_
   rintro e w1 ⟨vb,rfl,g1⟩
   clear K1
   obtain⟨Fb,hrb⟩:=g1.get 0 rfl
   obtain⟨ab,cb,rfl,-,-,-⟩:=hrb.shape
   clear hrb
   by_cases h0:(frTake (b.drop n)).2.2=0
   ·obtain⟨k1,k2⟩:=HTK.out h0
    have HSC:=Lib.hid (HST.out h0)
    have G1:=Lib.hid g1
    clear HST HEN g1
    generalize hT:frTake (b.drop n)=T at *
    obtain⟨⟨kd,vd,body⟩,m,er⟩:=T
    simp only at h0 k1 k2 HSC G1 ⊢
    subst h0
    clear hT
    have H2:=Lib.hid (G1.out.cells #[.int .i64 kd,.int .i64 vd,.slice ab body.length cb] 74)
    have h3:=H2.out.cells #[.int .i64 kd,.int .i64 vd,.slice ab body.length cb] 74
    simp only [World.size_alloc] at h3
    have H3:=Lib.hid h3
    clear h3
    have sb:=H3.out.block 0 rfl
    have SB:=Lib.hid (Src.of_block (k:=3) sb rfl)
    clear G1 sb
    go_wp2_with (at_builtin;refine app_list rfl H3.out 3 rfl (.tmp 27) (.tmp 29) 197 (by rfl) Tryz.underlying197 infoFrame (by decide) (by decide) (by rfl) (by rfl) SB.out (fun u hu=>by simp at hu;rcases hu with rfl | rfl | rfl <;> rfl) (by omega) ?_)
    intro v' w3 ho hg
    obtain⟨Fw,hw⟩:=ho.get 3 rfl
    obtain⟨aw,cw,rfl,-,-,-⟩:=hw.shape
    have HR:Hid (ScanRel b F0 w0 R (.slice aw (fs.length+1) cw) (.int .i64 (n+m)) w3):=Lib.hid (by
     refine⟨n+m,fs++[⟨kd,vd,body⟩],vs++[.slice ab body.length cb],by go_num,k2,by simp [HV.out],by simp;omega,HSC.out,?_⟩
     rw [flatFr_snoc _ _ HV.out,bodiesR_snoc _ _ HV.out,List.length_append]
     have h4:=ho.drop.drop
     have h5:In F0 w0 w3 (bodyA (.slice ab body.length cb) ⟨kd,vd,body⟩::RowA 74 3 (.slice aw (fs.length+1) cw) (fs.length+1) (flatFr fs vs++encFr ⟨kd,vd,body⟩ (.slice ab body.length cb))::(bodiesR vs fs++R)):=h4
     refine h5.perm ?_
     refine (List.Perm.swap _ _ _).trans (List.Perm.cons _ ?_)
     rw [List.append_assoc]
     exact List.perm_middle.symm)
    clear ho hg hw H2 H3 HSC HV HTK SB
    go_wp2_with fail
    go_roundw
    case rel=>exact HR.out
    case measure=>simp [intOf];omega
   ·have q:((frTake (b.drop n)).2.2 != 0)=true:=by rw [bne_iff_ne];exact h0
    have HF:Hid (∀ w',In F0 w0 w' (RowA 74 3 (.slice a fs.length cap) fs.length (flatFr fs vs)::(bodiesR vs fs++R))→ScanPost b F0 w0 R (.returned (.tuple #[.slice a fs.length cap,.int .i64 n,.int .i64 (frTake (b.drop n)).2.2])) w'):=Lib.hid fun w' h'=>by
     refine⟨_,by rw [HEN.out h0],?_⟩
     rw [HEN.out h0]
     exact frs_close HV.out h'
    have G1:=Lib.hid (fun o=>HF.out _ (g1.drop.alloc o))
    clear HST HEN HTK g1 HF h0
    generalize frTake (b.drop n)=T at *
    go_wp2_with fail
    go_ret3
    exact G1.out _
  ·have hge:(b.length:Int)≤(n:Int):=by omega
   have hnl:n=b.length:=by omega
   have HF:Hid (ScanPost b F0 w0 R (.returned (.tuple #[.slice a fs.length cap,.int .i64 n,.int .i64 0])) wr):=Lib.hid (by
    have e:frScan b=(fs,n,0):=by rw [hsc,hnl,List.drop_length,frScan_nil];simp
    exact⟨_,by rw [e],by rw [e];exact frs_close hvs ho⟩)
   clear ho hsc hvs hlt hnl
   go_wp2_with fail
   go_ret3
   exact HF.out
end
end Go.Proofs.YtpmmiljakbojaaaGreat
