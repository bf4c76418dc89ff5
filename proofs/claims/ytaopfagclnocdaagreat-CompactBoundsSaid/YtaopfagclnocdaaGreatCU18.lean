/- Rows.CompactBoundsSaid -/
import Derived.Test.YtaopfagclnocdaaGreatCU16
import Derived.Test.YtaopfagclnocdaaGreatCU17
namespace Go.Proofs.YtaopfagclnocdaaGreat
open Go.RowKit
set_option linter.unusedVariables false
set_option maxHeartbeats 64000000
set_option maxRecDepth 100000
section
variable {F0:List Nat} {w0 w:World} {R:List Asrt}
theorem bkB_lo {v:Int} (h:¬ 2≤v) (b:Bk):bkB v b=be (u64 b.id) 2++be (u64 b.addr) 4:=by unfold bkB;rw [if_neg h,List.append_nil]
theorem bkB_hi {v:Int} (h:2≤v) (b:Bk):bkB v b=be (u64 b.id) 2++be (u64 b.addr) 4++be (u64 b.weight) 1:=by unfold bkB;rw [if_pos h]
theorem bksB_step {v:Int} {l:List Bk} {k:Nat} {x:Bk} (h:l[k]?=some x):bksB v (l.take (k+1))=bksB v (l.take k)++bkB v x:=by
 rw [List.take_add_one,h];simp [bksB]
theorem bksB_len (v:Int):∀ l:List Bk,(bksB v l).length≤l.length * 7
 | []=>by simp [bksB]
 | x::l=>by
  have ih:=bksB_len v l
  have e:(bksB v (x::l)).length=(bkB v x).length+(bksB v l).length:=by simp [bksB]
  have e2:(bkB v x).length≤7:=by unfold bkB;split <;> simp [be_length]
  rw [e,List.length_cons];omega
def QEnc3Rel (v:Int) (hd:List UInt8) (bks:List Bk) (C:Array Value) (g:Nat) (F0:List Nat) (w0:World) (R:List Asrt) (b i:Value) (wr:World):Prop:=
 ∃ (k:Nat) (a:Option Addr) (c:Nat) (bs:List UInt8),k≤bks.length∧i=.int .i64 k∧bs=hd++bksB v (bks.take k)∧b=.slice a bs.length c∧In F0 w0 wr (ByR (.slice a bs.length c) bs::Cells (g+1) #[.int .i64 0,.int .i64 0,.slice none 0 0] 85::Cells g C 45::R)
theorem q_enc3 {src dst proto sport dport fbk fgen fseen gen bk till count:Int} {bks:List Bk} {A:Option Addr} {c:Nat} {v:Int} (hv:verOk v=true) (hm:mayRec ⟨3,⟨⟨src,dst,proto,sport,dport⟩,fbk,fgen,fseen⟩,gen,bks,bk,till,count⟩=true) (hw:WfR ⟨3,⟨⟨src,dst,proto,sport,dport⟩,fbk,fgen,fseen⟩,gen,bks,bk,till,count⟩) (hs:BksAt F0 w0 R A bks) (hl:bks.length≤1000000) (h:In F0 w0 w R) :
  Calls Tryz.prog 71 #[.agg #[.int .i64 3,.int .u32 src,.int .u32 dst,.int .i64 proto,.int .i64 sport,.int .i64 dport,.int .i64 fbk,.int .i64 fgen,.int .i64 fseen,.int .i64 gen,.slice A bks.length c,.int .i64 bk,.int .i64 till,.int .i64 count],.int .i64 v] w (REncPost (encRec ⟨3,⟨⟨src,dst,proto,sport,dport⟩,fbk,fgen,fseen⟩,gen,bks,bk,till,count⟩ v) F0 w0 R):=by
 obtain⟨hv1,hv3⟩:1≤v∧v≤3:=of_decide_eq_true hv
 have KV:Hid (∀ w,Calls Tryz.prog 51 #[.int .i64 v] w fun e w'=>e=.returned (.bool true)∧w'=w):=Lib.hid (fun w=>by rw [← hv];exact q_version v w)
 have h2:In F0 w0 ((w.alloc (.cells #[.int .i64 3,.int .u32 src,.int .u32 dst,.int .i64 proto,.int .i64 sport,.int .i64 dport,.int .i64 fbk,.int .i64 fgen,.int .i64 fseen,.int .i64 gen,.slice A bks.length c,.int .i64 bk,.int .i64 till,.int .i64 count] 45)).alloc (.cells #[.int .i64 0,.int .i64 0,.slice none 0 0] 85)) (Cells (w.heap.size+1) #[.int .i64 0,.int .i64 0,.slice none 0 0] 85::Cells w.heap.size #[.int .i64 3,.int .u32 src,.int .u32 dst,.int .i64 proto,.int .i64 sport,.int .i64 dport,.int .i64 fbk,.int .i64 fgen,.int .i64 fseen,.int .i64 gen,.slice A bks.length c,.int .i64 bk,.int .i64 till,.int .i64 count] 45::R):=by
  have h2:=(h.cells #[.int .i64 3,.int .u32 src,.int .u32 dst,.int .i64 proto,.int .i64 sport,.int .i64 dport,.int .i64 fbk,.int .i64 fgen,.int .i64 fseen,.int .i64 gen,.slice A bks.length c,.int .i64 bk,.int .i64 till,.int .i64 count] 45).cells #[.int .i64 0,.int .i64 0,.slice none 0 0] 85
  simp only [World.size_alloc] at h2
  exact h2
 have KM:Hid (Calls Tryz.prog 41 #[.agg #[.int .i64 3,.int .u32 src,.int .u32 dst,.int .i64 proto,.int .i64 sport,.int .i64 dport,.int .i64 fbk,.int .i64 fgen,.int .i64 fseen,.int .i64 gen,.slice A bks.length c,.int .i64 bk,.int .i64 till,.int .i64 count]] ((w.alloc (.cells #[.int .i64 3,.int .u32 src,.int .u32 dst,.int .i64 proto,.int .i64 sport,.int .i64 dport,.int .i64 fbk,.int .i64 fgen,.int .i64 fseen,.int .i64 gen,.slice A bks.length c,.int .i64 bk,.int .i64 till,.int .i64 count] 45)).alloc (.cells #[.int .i64 0,.int .i64 0,.slice none 0 0] 85)) fun e w'=>e=.returned (.bool true)∧In F0 w0 w' (Cells (w.heap.size+1) #[.int .i64 0,.int .i64 0,.slice none 0 0] 85::Cells w.heap.size #[.int .i64 3,.int .u32 src,.int .u32 dst,.int .i64 proto,.int .i64 sport,.int .i64 dport,.int .i64 fbk,.int .i64 fgen,.int .i64 fseen,.int .i64 gen,.slice A bks.length c,.int .i64 bk,.int .i64 till,.int .i64 count] 45::R)):=Lib.hid (by
  have:=o_qmay (r:=⟨3,⟨⟨src,dst,proto,sport,dport⟩,fbk,fgen,fseen⟩,gen,bks,bk,till,count⟩) (c:=c) (fun w' h'=>hs w' h'.drop.drop) hl h2
  rw [hm] at this;exact this)
 have hk:=mayRec_iff.1 hm
 simp only at hk
 obtain⟨hg0,hg1,hb16,hmb⟩:0≤gen∧gen≤1000000∧bks.length≤16∧∀ b∈bks,mayBk b=true:=by
  rcases hk with h | h | h | h | h | h <;> first | (exact absurd h.1 (by decide)) | exact⟨h.2.1.1,h.2.1.2,h.2.2.1,h.2.2.2⟩
 have KG:Hid (Q32 F0 w0 gen):=Lib.hid (fun W R' h'=>q_u32 hg0 (by omega) h')
 have HMB:Hid (∀ (k:Nat) (b:Bk),bks[k]?=some b→(0≤b.id∧b.id≤65535)∧(0≤b.addr∧b.addr < 4294967296)∧(0≤b.weight∧b.weight≤255)):=Lib.hid (fun k b hb=>by
  have h1:=hmb b (List.mem_of_getElem? hb)
  have h2:=hw.addr b (List.mem_of_getElem? hb)
  unfold mayBk at h1
  simp only [Bool.and_eq_true,decide_eq_true_eq] at h1
  exact⟨h1.1,h2,by omega,by omega⟩)
 have HS:=Lib.hid hs
 have HN:=Lib.hid hb16
 have HBY:Hid (∀ {W:World} {R':List Asrt} {u:Value} {x:List UInt8},In F0 w0 W (RowA 5 1 u (x.length+1) (u8s x++[Value.int .u8 (bks.length:Int)])::R')→In F0 w0 W (ByR u (x++be (u64 (bks.length:Int)) 1)::R')):=Lib.hid (fun h=>by_one (by omega) (by omega) h)
 have HB:Hid (∀ w' b,In F0 w0 w' (ByR b (recBody ⟨3,⟨⟨src,dst,proto,sport,dport⟩,fbk,fgen,fseen⟩,gen,bks,bk,till,count⟩ v)::Cells (w.heap.size+1) #[.int .i64 3,.int .i64 v,b] 85::Cells w.heap.size #[.int .i64 3,.int .u32 src,.int .u32 dst,.int .i64 proto,.int .i64 sport,.int .i64 dport,.int .i64 fbk,.int .i64 fgen,.int .i64 fseen,.int .i64 gen,.slice A bks.length c,.int .i64 bk,.int .i64 till,.int .i64 count] 45::R)→REncPost (encRec ⟨3,⟨⟨src,dst,proto,sport,dport⟩,fbk,fgen,fseen⟩,gen,bks,bk,till,count⟩ v) F0 w0 R (.returned (.tuple #[.agg #[.int .i64 3,.int .i64 v,b],.int .i64 0])) w'):=Lib.hid fun w' b h'=>by
  have e:encRec ⟨3,⟨⟨src,dst,proto,sport,dport⟩,fbk,fgen,fseen⟩,gen,bks,bk,till,count⟩ v=(⟨(3:Int).toNat,v.toNat,recBody ⟨3,⟨⟨src,dst,proto,sport,dport⟩,fbk,fgen,fseen⟩,gen,bks,bk,till,count⟩ v⟩,0):=by
   unfold encRec;rw [if_neg (by simp [hv]),if_neg (by simp [hm])]
   skip
  have hvn:((v.toNat:Nat):Int)=v:=Int.toNat_of_nonneg (by omega)
  rw [e]
  exact⟨b,by simp only;rw [hvn];rfl,h'.sel2 (R1:=[_,_,_]) (R2:=R) [0] (by decide) rfl⟩
 obtain⟨hd,hhd⟩:∃ hd,hd=be (u64 gen) 4++be (u64 (bks.length:Int)) 1:=⟨_,rfl⟩
 have HHD:=Lib.hid hhd
 have HBD:Hid (recBody ⟨3,⟨⟨src,dst,proto,sport,dport⟩,fbk,fgen,fseen⟩,gen,bks,bk,till,count⟩ v=hd++bksB v bks):=Lib.hid (by rw [hhd];rfl)
 have HLN:Hid (∀ k,k≤bks.length→(hd++bksB v (bks.take k)).length≤200):=Lib.hid (fun k hk=>by
  have h1:=bksB_len v (bks.take k)
  have h2:(bks.take k).length≤16:=by rw [List.length_take];omega
  rw [List.length_append,hhd,List.length_append,be_length,be_length];omega)
 have hq8:IntKind.u8.wrap (bks.length:Int)=(bks.length:Int):=by
  have e:IntKind.u8.wrap (bks.length:Int)=(bks.length:Int) % 256:=by simp [IntKind.wrap,IntKind.bits,IntKind.signed]
  rw [e];omega
 have hq32:IntKind.u32.wrap gen=gen:=by
  have e:IntKind.u32.wrap gen=gen % 4294967296:=by simp [IntKind.wrap,IntKind.bits,IntKind.signed]
  rw [e];omega
 clear h h2 hs hl hv hw hm hk hhd hmb hb16
 go_enter Tryz.func71,Tryz.ntmps71
 go_wp2_with fail
 refine (KV.out _).mono ?_
 rintro e w1 ⟨rfl,rfl⟩
 clear KV
 go_wp2_with fail
 refine KM.out.mono ?_
 rintro e w1 ⟨rfl,g1⟩
 clear KM
 generalize w.heap.size=g at *
 have k0:w1.cell? ⟨g,0,none⟩=some (.int .i64 3):=cell_of (g1.block 1 rfl) rfl
 have g1b:=show In F0 w0 (w1.alloc (.cells #[.int .u8 (bks.length:Int)] 5)).drew _ from (g1.cells #[.int .u8 (bks.length:Int)] 5).drewN 1
 have G0:=Lib.hid (show In F0 w0 w1.drew _ from g1.drewN 1)
 have KA:=Lib.hid (KG.out _ _ G0.out)
 have KB:=Lib.hid (KG.out _ _ g1b)
 have hz0:w1.drew.cell? ⟨g,9,none⟩=some (.int .i64 gen)∧w1.drew.cell? ⟨g,10,none⟩=some (.slice A bks.length c):=⟨cell_of (G0.out.block 1 rfl) rfl,cell_of (G0.out.block 1 rfl) rfl⟩
 have HV1:=Lib.hid hv1
 have HV3:=Lib.hid hv3
 have HG0:=Lib.hid (And.intro hg0 hg1)
 have hz4:(w1.alloc (.cells #[.int .u8 (bks.length:Int)] 5)).drew.cell? ⟨g,9,none⟩=some (.int .i64 gen)∧(w1.alloc (.cells #[.int .u8 (bks.length:Int)] 5)).drew.cell? ⟨g,10,none⟩=some (.slice A bks.length c):=⟨cell_of (g1b.block 2 rfl) rfl,cell_of (g1b.block 2 rfl) rfl⟩
 clear g1 g1b hv1 hv3 KG
 go_upto_region 17 with fail
 go_cut [6] (fun x6 wx=>∃ a cq,x6=.slice a hd.length cq∧In F0 w0 wx (ByR (.slice a hd.length cq) hd::Cells (g+1) #[.int .i64 0,.int .i64 0,.slice none 0 0] 85::Cells g #[.int .i64 3,.int .u32 src,.int .u32 dst,.int .i64 proto,.int .i64 sport,.int .i64 dport,.int .i64 fbk,.int .i64 fgen,.int .i64 fseen,.int .i64 gen,.slice A bks.length c,.int .i64 bk,.int .i64 till,.int .i64 count] 45::R))
 case first=>
  go_region_held3 (fun w'=>w'.cell? ⟨g,9,none⟩=some (.int .i64 gen)∧w'.cell? ⟨g,10,none⟩=some (.slice A bks.length c)) (first | exact hz3 | exact hz2 | exact hz5 | exact hz1 | exact hz4 | exact hz0 | go_keep)
   (first
    | (refine app_step rfl (by exact G1.out.cells #[.int .u8 (bks.length:Int)] 5) 1 rfl (.tmp 62) (.tmp 67) 61 (by rfl) Tryz.underlying61 infoByte (by decide) (by decide) (by rfl) (by rfl) (by exact Src.of_block ((G1.out.cells #[.int .u8 (bks.length:Int)] 5).block 0 rfl) rfl) (fun u hu=>by simp at hu;subst hu;rfl) (by rw [be_length];decide) ?_
       intro v3 w4 ho hg
       have hz3:w4.cell? ⟨g,9,none⟩=some (.int .i64 gen)∧w4.cell? ⟨g,10,none⟩=some (.slice A bks.length c):=⟨cell_of (ho.block 3 rfl) rfl,cell_of (ho.block 3 rfl) rfl⟩
       have g3:=HBY.out (ho.sel2 (R1:=[_,_,_,_]) (R2:=R) [1,2,3] (by decide) rfl)
       rw [← HHD.out] at g3
       have G3:=Lib.hid g3
       clear ho hg g3)
    | (refine app_step rfl (by exact G2.out) 0 rfl (.tmp 62) (.tmp 67) 61 (by rfl) Tryz.underlying61 infoByte (by decide) (by decide) (by rfl) (by rfl) (by exact Src.of_block (G2.out.block 1 rfl) rfl) (fun u hu=>by simp at hu;subst hu;rfl) (by rw [be_length];decide) ?_
       intro v3 w4 ho hg
       have hz3:w4.cell? ⟨g,9,none⟩=some (.int .i64 gen)∧w4.cell? ⟨g,10,none⟩=some (.slice A bks.length c):=⟨cell_of (ho.block 3 rfl) rfl,cell_of (ho.block 3 rfl) rfl⟩
       have g3:=HBY.out (ho.sel2 (R1:=[_,_,_,_]) (R2:=R) [0,2,3] (by decide) rfl)
       rw [← HHD.out] at g3
       have G3:=Lib.hid g3
       clear ho hg g3)
    | (go_at_call 150
       with_reducible refine KB.out.mono ?_
       rintro e w3 ⟨v1,rfl,g2⟩
       obtain⟨a1,c1,rfl⟩:=ByR.shape g2
       have hz2:w3.cell? ⟨g,9,none⟩=some (.int .i64 gen)∧w3.cell? ⟨g,10,none⟩=some (.slice A bks.length c):=⟨cell_of (g2.block 3 rfl) rfl,cell_of (g2.block 3 rfl) rfl⟩
       have G2:=Lib.hid g2
       clear g2)
    | (go_at_call 150
       with_reducible refine KA.out.mono ?_
       rintro e w2 ⟨v1,rfl,g1⟩
       obtain⟨a1,c1,rfl⟩:=ByR.shape g1
       have hz1:w2.cell? ⟨g,9,none⟩=some (.int .i64 gen)∧w2.cell? ⟨g,10,none⟩=some (.slice A bks.length c):=⟨cell_of (g1.block 2 rfl) rfl,cell_of (g1.block 2 rfl) rfl⟩
       have hz5:(w2.alloc (.cells #[.int .u8 (bks.length:Int)] 5)).cell? ⟨g,9,none⟩=some (.int .i64 gen)∧(w2.alloc (.cells #[.int .u8 (bks.length:Int)] 5)).cell? ⟨g,10,none⟩=some (.slice A bks.length c):=⟨cell_of ((g1.cells #[.int .u8 (bks.length:Int)] 5).block 3 rfl) rfl,cell_of ((g1.cells #[.int .u8 (bks.length:Int)] 5).block 3 rfl) rfl⟩
       have G1:=Lib.hid g1
       clear g1))
  all_goals (obtain⟨a3,c3,rfl⟩:=ByR.shape G3.out)
  all_goals (go_wp2_with fail)
  all_goals go_meet
  all_goals exact⟨_,_,rfl,G3.out⟩
 case rest=>
 obtain⟨a3,c3,rfl,g3⟩:=hcut
 have k10:wc.cell? ⟨g,10,none⟩=some (.slice A bks.length c):=cell_of (g3.block 2 rfl) rfl
 have HR:Hid (QEnc3Rel v hd bks #[.int .i64 3,.int .u32 src,.int .u32 dst,.int .i64 proto,.int .i64 sport,.int .i64 dport,.int .i64 fbk,.int .i64 fgen,.int .i64 fseen,.int .i64 gen,.slice A bks.length c,.int .i64 bk,.int .i64 till,.int .i64 count] g F0 w0 R (.slice a3 hd.length c3) (.int .i64 0) wc):=Lib.hid ⟨0,a3,c3,hd,Nat.zero_le _,rfl,by simp [bksB],rfl,g3⟩
 clear g3 hz0 hz4 G0 KA KB HBY HHD HG0 hg0 hg1 hq8 hq32 k0
 go_wp2_with fail
 go_loopw [6,72] (QEnc3Rel v hd bks #[.int .i64 3,.int .u32 src,.int .u32 dst,.int .i64 proto,.int .i64 sport,.int .i64 dport,.int .i64 fbk,.int .i64 fgen,.int .i64 fseen,.int .i64 gen,.slice A bks.length c,.int .i64 bk,.int .i64 till,.int .i64 count] g F0 w0 R) (fun _ i _=>bks.length - (intOf i).toNat)
 case atStart=>exact HR.out
 case round=>
  obtain⟨k,a,cc,bs,hk,rfl,hbs,rfl,hio⟩:=hrel
  clear HR k10
  by_cases hlt:k < bks.length
  ·obtain⟨⟨xid,xaddr,xw⟩,hx⟩:∃ x,bks[k]?=some x:=⟨bks[k],List.getElem?_eq_getElem hlt⟩
   obtain⟨gb,ob,rfl,sc⟩:=(HS.out wr hio.drop.drop.drop).plain (by omega) (by decide)
   obtain⟨y0,y1,y2⟩:=bkV_at hx
   simp only at y0 y1 y2
   have c0:wr.cell? ⟨gb,ob+k * 3,none⟩=some (.int .i64 xid):=sc _ _ y0
   have c1:wr.cell? ⟨gb,ob+k * 3+1,none⟩=some (.int .u32 xaddr):=by have:=sc _ _ y1;rwa [← Nat.add_assoc] at this
   have c2:wr.cell? ⟨gb,ob+k * 3+2,none⟩=some (.int .i64 xw):=by have:=sc _ _ y2;rwa [← Nat.add_assoc] at this
   have hlt':(k:Int) < (bks.length:Int):=Int.ofNat_lt.2 hlt
   have hw2:wrap64 ((k:Int)+1)=(k:Int)+1:=by have:=HN.out;unfold wrap64;omega
   obtain⟨⟨i0,i1⟩,⟨j0,j1⟩,⟨l0,l1⟩⟩:=HMB.out _ _ hx
   simp only at i0 i1 j0 j1 l0 l1
   have KI:Hid (Q16 F0 w0 xid):=Lib.hid (fun W R' h'=>q_u16 i0 i1 h')
   have KJ:Hid (Q32 F0 w0 xaddr):=Lib.hid (fun W R' h'=>q_u32 j0 j1 h')
   have HBW:Hid (∀ {W:World} {R':List Asrt} {u:Value} {x:List UInt8},In F0 w0 W (RowA 5 1 u (x.length+1) (u8s x++[Value.int .u8 xw])::R')→In F0 w0 W (ByR u (x++be (Go.Proofs.YtaopfagclnocdaaGreat.u64 xw) 1)::R')):=Lib.hid (fun h=>by_one l0 l1 h)
   have hq8:IntKind.u8.wrap xw=xw:=by
    have e:IntKind.u8.wrap xw=xw % 256:=by simp [IntKind.wrap,IntKind.bits,IntKind.signed]
    rw [e];omega
   have HAP:Hid (bs.length+(be (Go.Proofs.YtaopfagclnocdaaGreat.u64 xid) 2).length≤1000000000):=Lib.hid (by have:=HLN.out k hk;rw [← hbs] at this;rw [be_length];omega)
   have HLB:Hid (bs.length≤200):=Lib.hid (by rw [hbs];exact HLN.out k hk)
   have HNX:Hid (∀ b',b'=bs++bkB v ⟨xid,xaddr,xw⟩→b'=hd++bksB v (bks.take (k+1))):=Lib.hid (fun b' e=>by rw [e,bksB_step hx,hbs,List.append_assoc])
   have HM:=Lib.hid (meas_lt hlt')
   have HK:Hid (k+1≤bks.length):=Lib.hid hlt
   have H0:=hio.cells #[.int .i64 xid,.int .u32 xaddr,.int .i64 xw] 108
   have HH:=Lib.hid H0
   have G0:=Lib.hid (show In F0 w0 (wr.alloc (.cells #[.int .i64 xid,.int .u32 xaddr,.int .i64 xw] 108)).drew _ from H0.drewN 1)
   clear hio hx hlt hk sc y0 y1 y2 hbs H0 i0 i1 j0 j1 l0 l1
   go_wp2_with fail
   generalize wr.heap.size=b3 at *
   generalize wr.alloc (.cells #[.int .i64 xid,.int .u32 xaddr,.int .i64 xw] 108)=wb at *
   have hz0:wb.drew.cell? ⟨b3,0,none⟩=some (.int .i64 xid)∧wb.drew.cell? ⟨b3,1,none⟩=some (.int .u32 xaddr):=⟨cell_of (G0.out.block 0 rfl) rfl,cell_of (G0.out.block 0 rfl) rfl⟩
   go_region_held3 (fun w'=>w'.cell? ⟨b3,0,none⟩=some (.int .i64 xid)∧w'.cell? ⟨b3,1,none⟩=some (.int .u32 xaddr)) (first | exact hz4 | exact hz3 | exact hz2 | exact hz1 | exact hz0)
    (first
     | (refine app_step rfl (by exact G3.out) 1 rfl (.tmp 80) (.tmp 83) 61 (by rfl) Tryz.underlying61 infoByte (by decide) (by decide) (by rfl) (by rfl) (by exact ByR.src G3.out 0 rfl) (u8s_one _) (by exact HAQ.out) ?_
        intro v4 w4 ho hg
        have hz4:w4.cell? ⟨b3,0,none⟩=some (.int .i64 xid)∧w4.cell? ⟨b3,1,none⟩=some (.int .u32 xaddr):=⟨cell_of (ho.block 2 rfl) rfl,cell_of (ho.block 2 rfl) rfl⟩
        have g4:=by_app (ho.sel2 (R1:=[_,_,_,_,_]) (R2:=R) [1,2,3,4] (by decide) rfl)
        generalize hb4:b2++be (Go.Proofs.YtaopfagclnocdaaGreat.u64 xaddr) 4=b4 at g4
        have HL4:Hid (b4.length≤206):=Lib.hid (by rw [← hb4,List.length_append,be_length];exact Nat.add_le_add_right HL2.out 4)
        have HB4:=Lib.hid hb4
        obtain⟨a4,c4,rfl⟩:=ByR.shape g4
        have G4:=Lib.hid g4
        clear ho hg g4 hb4)
     | (go_at_call 150
        refine (KJ.out _ _ G2.out).mono ?_
        rintro e w3 ⟨v3,rfl,g3⟩
        obtain⟨a3,c3,rfl⟩:=ByR.shape g3
        have hz3:w3.cell? ⟨b3,0,none⟩=some (.int .i64 xid)∧w3.cell? ⟨b3,1,none⟩=some (.int .u32 xaddr):=⟨cell_of (g3.block 2 rfl) rfl,cell_of (g3.block 2 rfl) rfl⟩
        have G3:=Lib.hid g3
        clear g3
        dsimp only)
     | (refine app_step rfl (by exact G1.out) 2 rfl (.tmp 76) (.tmp 79) 61 (by rfl) Tryz.underlying61 infoByte (by decide) (by decide) (by rfl) (by rfl) (by exact ByR.src G1.out 0 rfl) (u8s_one _) (by exact HAP.out) ?_
        intro v2 w2 ho hg
        have hz2:w2.cell? ⟨b3,0,none⟩=some (.int .i64 xid)∧w2.cell? ⟨b3,1,none⟩=some (.int .u32 xaddr):=⟨cell_of (ho.block 1 rfl) rfl,cell_of (ho.block 1 rfl) rfl⟩
        have g2:=by_app (ho.sel2 (R1:=[_,_,_,_,_]) (R2:=R) [2,1,3,4] (by decide) rfl)
        generalize hb2:bs++be (Go.Proofs.YtaopfagclnocdaaGreat.u64 xid) 2=b2 at g2
        have HL2:Hid (b2.length≤202):=Lib.hid (by rw [← hb2,List.length_append,be_length];exact Nat.add_le_add_right HLB.out 2)
        have HAQ:Hid (b2.length+(be (Go.Proofs.YtaopfagclnocdaaGreat.u64 xaddr) 4).length≤1000000000):=Lib.hid (by rw [be_length];exact Nat.le_trans (Nat.add_le_add_right HL2.out 4) (by decide))
        have HB2:=Lib.hid hb2
        obtain⟨a2,c2',rfl⟩:=ByR.shape g2
        have G2:=Lib.hid g2
        clear ho hg g2 hb2)
     | (go_at_call 149
        refine (KI.out _ _ G0.out).mono ?_
        rintro e w1 ⟨v1,rfl,g1⟩
        obtain⟨a1,c1',rfl⟩:=ByR.shape g1
        have hz1:w1.cell? ⟨b3,0,none⟩=some (.int .i64 xid)∧w1.cell? ⟨b3,1,none⟩=some (.int .u32 xaddr):=⟨cell_of (g1.block 1 rfl) rfl,cell_of (g1.block 1 rfl) rfl⟩
        have G1:=Lib.hid g1
        clear g1
        dsimp only))
   clear hz0 hz1 hz2 hz3 hz4 G0 G1 G2 G3 KI KJ HH c0 c1 c2 HAP HAQ
   by_cases q1:v < 2
   ·have HR:Hid (QEnc3Rel v hd bks #[.int .i64 3,.int .u32 src,.int .u32 dst,.int .i64 proto,.int .i64 sport,.int .i64 dport,.int .i64 fbk,.int .i64 fgen,.int .i64 fseen,.int .i64 gen,.slice (some ⟨gb,ob,none⟩) bks.length c,.int .i64 bk,.int .i64 till,.int .i64 count] g F0 w0 R (.slice a4 b4.length c4) (.int .i64 ((k:Int)+1)) w4):=Lib.hid ⟨k+1,a4,c4,b4,HK.out,by rw [Int.natCast_add];rfl,HNX.out _ (by rw [bkB_lo (by omega),← List.append_assoc,HB2.out,HB4.out]),rfl,G4.out.sel2 (R1:=[_,_,_,_]) (R2:=R) [0,2,3] (by decide) rfl⟩
    clear G4 HB2 HB4 HNX HBW HL2 HL4 HLB hq8
    go_wp2_with fail
    go_roundw
    case rel=>(try rw [hw2]);exact HR.out
    case measure=>(try rw [hw2]);exact HM.out
   ·have k2:w4.cell? ⟨b3,2,none⟩=some (.int .i64 xw):=cell_of (G4.out.block 1 rfl) rfl
    have H5:=Lib.hid (G4.out.cells #[.int .u8 xw] 5)
    have S5:=Lib.hid (Src.of_block (H5.out.block 0 rfl) rfl:Src _ (some ⟨w4.heap.size,0,none⟩) 1 1 _)
    have HL5:Hid (b4.length+1≤1000000000):=Lib.hid (Nat.le_trans (Nat.add_le_add_right HL4.out 1) (by decide))
    have q2:2≤v:=by omega
    go_wp2_with (at_builtin;refine app_list rfl H5.out 1 rfl (.tmp 87) (.tmp 91) 61 (by rfl) Tryz.underlying61 infoByte (by decide) (by decide) (by rfl) (by rfl) S5.out (fun u hu=>by simp at hu;subst hu;rfl) HL5.out ?_)
    intro v6 w6 ho hg
    have g6:=HBW.out (ho.sel2 (R1:=[_,_,_,_,_]) (R2:=R) [1,3,4] (by decide) rfl)
    generalize hb6:b4++be (Go.Proofs.YtaopfagclnocdaaGreat.u64 xw) 1=b6 at g6
    obtain⟨a6,c6,rfl⟩:=ByR.shape g6
    have HR:Hid (QEnc3Rel v hd bks #[.int .i64 3,.int .u32 src,.int .u32 dst,.int .i64 proto,.int .i64 sport,.int .i64 dport,.int .i64 fbk,.int .i64 fgen,.int .i64 fseen,.int .i64 gen,.slice (some ⟨gb,ob,none⟩) bks.length c,.int .i64 bk,.int .i64 till,.int .i64 count] g F0 w0 R (.slice a6 b6.length c6) (.int .i64 ((k:Int)+1)) w6):=Lib.hid ⟨k+1,a6,c6,b6,HK.out,by rw [Int.natCast_add];rfl,HNX.out _ (by rw [bkB_hi (by omega),← List.append_assoc,← List.append_assoc,HB2.out,HB4.out,hb6]),rfl,g6⟩
    clear ho hg g6 H5 S5 HL5 G4 HB2 HB4 HNX HBW HL2 HL4 HLB hq8 hb6 k2
    go_wp2_with fail
    go_roundw
    case rel=>(try rw [hw2]);exact HR.out
    case measure=>(try rw [hw2]);exact HM.out
  ·have hge:(bks.length:Int)≤(k:Int):=Int.ofNat_le.2 (Nat.le_of_not_lt hlt)
   have hkl:k=bks.length:=by omega
   rw [hkl,List.take_length] at hbs
   have hbd:=HBD.out
   rw [← hbs] at hbd
   rw [hbd] at HB
   have GB:=Lib.hid hio
   clear hio hbs hbd hlt hk hkl HLN HMB HN HS HBD
   have y0:wr.cell? ⟨g,0,none⟩=some (.int .i64 3):=cell_of (GB.out.block 2 rfl) rfl
   have f0:wr.frozen? ⟨g+1,0,none⟩=false:=free_of (GB.out.block 1 rfl)
   have f1:wr.frozen? ⟨g+1,1,none⟩=false:=free_of (GB.out.block 1 rfl)
   have f2:wr.frozen? ⟨g+1,2,none⟩=false:=free_of (GB.out.block 1 rfl)
   have d0:wr.cell? ⟨g+1,0,none⟩=some (.int .i64 0):=cell_of (GB.out.block 1 rfl) rfl
   have d1:wr.cell? ⟨g+1,1,none⟩=some (.int .i64 0):=cell_of (GB.out.block 1 rfl) rfl
   have d2:wr.cell? ⟨g+1,2,none⟩=some (.slice none 0 0):=cell_of (GB.out.block 1 rfl) rfl
   have GE5:=Lib.hid (GB.out.setFull 1 rfl (xs:=[.int .i64 3,.int .i64 v,.slice a (bs).length cc]) (b:=g+1) (C:=#[.int .i64 0,.int .i64 0,.slice none 0 0]) (T:=85) rfl)
   have GE6:=Lib.hid (HB.out _ _ GE5.out)
   clear GB HB
   go_wp2_with fail
   exact bodyPost_ret (results_cell_tmp_row Tryz.results71 _ _ (g+1) 85 _ (0,0) _ rfl (GE5.out.block 1 rfl) Tryz.underlying85 rfl (by kernel_rfl)) rfl GE6.out
theorem q_enc4 {src dst proto sport dport fbk fgen fseen gen bk till count:Int} {bks:List Bk} {A:Option Addr} {c:Nat} {v:Int} (hv:verOk v=true) (hm:mayRec ⟨4,⟨⟨src,dst,proto,sport,dport⟩,fbk,fgen,fseen⟩,gen,bks,bk,till,count⟩=true) (hw:WfR ⟨4,⟨⟨src,dst,proto,sport,dport⟩,fbk,fgen,fseen⟩,gen,bks,bk,till,count⟩) (hs:BksAt F0 w0 R A bks) (hl:bks.length≤1000000) (h:In F0 w0 w R) :
  Calls Tryz.prog 71 #[.agg #[.int .i64 4,.int .u32 src,.int .u32 dst,.int .i64 proto,.int .i64 sport,.int .i64 dport,.int .i64 fbk,.int .i64 fgen,.int .i64 fseen,.int .i64 gen,.slice A bks.length c,.int .i64 bk,.int .i64 till,.int .i64 count],.int .i64 v] w (REncPost (encRec ⟨4,⟨⟨src,dst,proto,sport,dport⟩,fbk,fgen,fseen⟩,gen,bks,bk,till,count⟩ v) F0 w0 R):=by
 obtain⟨hv1,hv3⟩:1≤v∧v≤3:=of_decide_eq_true hv
 have KV:Hid (∀ w,Calls Tryz.prog 51 #[.int .i64 v] w fun e w'=>e=.returned (.bool true)∧w'=w):=Lib.hid (fun w=>by rw [← hv];exact q_version v w)
 have h2:In F0 w0 ((w.alloc (.cells #[.int .i64 4,.int .u32 src,.int .u32 dst,.int .i64 proto,.int .i64 sport,.int .i64 dport,.int .i64 fbk,.int .i64 fgen,.int .i64 fseen,.int .i64 gen,.slice A bks.length c,.int .i64 bk,.int .i64 till,.int .i64 count] 45)).alloc (.cells #[.int .i64 0,.int .i64 0,.slice none 0 0] 85)) (Cells (w.heap.size+1) #[.int .i64 0,.int .i64 0,.slice none 0 0] 85::Cells w.heap.size #[.int .i64 4,.int .u32 src,.int .u32 dst,.int .i64 proto,.int .i64 sport,.int .i64 dport,.int .i64 fbk,.int .i64 fgen,.int .i64 fseen,.int .i64 gen,.slice A bks.length c,.int .i64 bk,.int .i64 till,.int .i64 count] 45::R):=by
  have h2:=(h.cells #[.int .i64 4,.int .u32 src,.int .u32 dst,.int .i64 proto,.int .i64 sport,.int .i64 dport,.int .i64 fbk,.int .i64 fgen,.int .i64 fseen,.int .i64 gen,.slice A bks.length c,.int .i64 bk,.int .i64 till,.int .i64 count] 45).cells #[.int .i64 0,.int .i64 0,.slice none 0 0] 85
  simp only [World.size_alloc] at h2
  exact h2
 have KM:Hid (Calls Tryz.prog 41 #[.agg #[.int .i64 4,.int .u32 src,.int .u32 dst,.int .i64 proto,.int .i64 sport,.int .i64 dport,.int .i64 fbk,.int .i64 fgen,.int .i64 fseen,.int .i64 gen,.slice A bks.length c,.int .i64 bk,.int .i64 till,.int .i64 count]] ((w.alloc (.cells #[.int .i64 4,.int .u32 src,.int .u32 dst,.int .i64 proto,.int .i64 sport,.int .i64 dport,.int .i64 fbk,.int .i64 fgen,.int .i64 fseen,.int .i64 gen,.slice A bks.length c,.int .i64 bk,.int .i64 till,.int .i64 count] 45)).alloc (.cells #[.int .i64 0,.int .i64 0,.slice none 0 0] 85)) fun e w'=>e=.returned (.bool true)∧In F0 w0 w' (Cells (w.heap.size+1) #[.int .i64 0,.int .i64 0,.slice none 0 0] 85::Cells w.heap.size #[.int .i64 4,.int .u32 src,.int .u32 dst,.int .i64 proto,.int .i64 sport,.int .i64 dport,.int .i64 fbk,.int .i64 fgen,.int .i64 fseen,.int .i64 gen,.slice A bks.length c,.int .i64 bk,.int .i64 till,.int .i64 count] 45::R)):=Lib.hid (by
  have:=o_qmay (r:=⟨4,⟨⟨src,dst,proto,sport,dport⟩,fbk,fgen,fseen⟩,gen,bks,bk,till,count⟩) (c:=c) (fun w' h'=>hs w' h'.drop.drop) hl h2
  rw [hm] at this;exact this)
 have hk:=mayRec_iff.1 hm
 simp only at hk
 obtain⟨hb0,hb1,ht0,ht1⟩:0≤bk∧bk≤65535∧0≤till∧till≤1099511627776:=by
  rcases hk with h | h | h | h | h | h <;> first | (exact absurd h.1 (by decide)) | exact⟨h.2.1.1,h.2.1.2,h.2.2.1,h.2.2.2⟩
 have KB:Hid (Q16 F0 w0 bk):=Lib.hid (fun W R' h'=>q_u16 hb0 hb1 h')
 have KT:Hid (∀ (W:World) (R':List Asrt),In F0 w0 W R'→Calls Tryz.prog 151 #[.int .i64 till] W fun e w'=>∃ v,e=.returned v∧In F0 w0 w' (ByR v (be (u64 till) 8)::R')):=Lib.hid (fun W R' h'=>q_i64 ht0 ht1 h')
 have HB:Hid (∀ w' b,In F0 w0 w' (ByR b (be (u64 bk) 2++be (u64 till) 8)::Cells (w.heap.size+1) #[.int .i64 4,.int .i64 v,b] 85::Cells w.heap.size #[.int .i64 4,.int .u32 src,.int .u32 dst,.int .i64 proto,.int .i64 sport,.int .i64 dport,.int .i64 fbk,.int .i64 fgen,.int .i64 fseen,.int .i64 gen,.slice A bks.length c,.int .i64 bk,.int .i64 till,.int .i64 count] 45::R)→REncPost (encRec ⟨4,⟨⟨src,dst,proto,sport,dport⟩,fbk,fgen,fseen⟩,gen,bks,bk,till,count⟩ v) F0 w0 R (.returned (.tuple #[.agg #[.int .i64 4,.int .i64 v,b],.int .i64 0])) w'):=Lib.hid fun w' b h'=>by
  have e:encRec ⟨4,⟨⟨src,dst,proto,sport,dport⟩,fbk,fgen,fseen⟩,gen,bks,bk,till,count⟩ v=(⟨(4:Int).toNat,v.toNat,be (u64 bk) 2++be (u64 till) 8⟩,0):=by
   unfold encRec;rw [if_neg (by simp [hv]),if_neg (by simp [hm])]
   rfl
  have hvn:((v.toNat:Nat):Int)=v:=Int.toNat_of_nonneg (by omega)
  rw [e]
  exact⟨b,by simp only;rw [hvn];rfl,h'.sel2 (R1:=[_,_,_]) (R2:=R) [0] (by decide) rfl⟩
 clear h h2 hs hl hv hw hm hk hb0 hb1 ht0 ht1 hv1 hv3
 go_enter Tryz.func71,Tryz.ntmps71
 go_wp2_with fail
 refine (KV.out _).mono ?_
 rintro e w1 ⟨rfl,rfl⟩
 clear KV
 go_wp2_with fail
 refine KM.out.mono ?_
 rintro e w1 ⟨rfl,g1⟩
 clear KM
 generalize w.heap.size=g at *
 have k0:w1.cell? ⟨g,0,none⟩=some (.int .i64 4):=cell_of (g1.block 1 rfl) rfl
 have G0:=Lib.hid (g1.drewN 1)
 have hz0:(w1.drewN 1).cell? ⟨g,11,none⟩=some (.int .i64 bk)∧(w1.drewN 1).cell? ⟨g,12,none⟩=some (.int .i64 till):=⟨cell_of (G0.out.block 1 rfl) rfl,cell_of (G0.out.block 1 rfl) rfl⟩
 clear g1
 go_wp2_with fail
 go_region_held3 (fun w'=>w'.cell? ⟨g,11,none⟩=some (.int .i64 bk)∧w'.cell? ⟨g,12,none⟩=some (.int .i64 till)) (first | exact hz3 | exact hz2 | exact hz1 | exact hz0)
  (first
   | (refine app_step rfl (by exact G2.out) 1 rfl (.tmp 98) (.tmp 101) 61 (by rfl) Tryz.underlying61 infoByte (by decide) (by decide) (by rfl) (by rfl) (by exact ByR.src G2.out 0 rfl) (u8s_one _) (by exact bl_le _ _ _ _ (by decide)) ?_
      intro v3 w4 ho hg
      have hz3:w4.cell? ⟨g,11,none⟩=some (.int .i64 bk)∧w4.cell? ⟨g,12,none⟩=some (.int .i64 till):=⟨cell_of (ho.block 3 rfl) rfl,cell_of (ho.block 3 rfl) rfl⟩
      have g3:=by_app (ho.sel2 (R1:=[_,_,_,_]) (R2:=R) [1,2,3] (by decide) rfl)
      obtain⟨a3,c3,rfl⟩:=ByR.shape g3
      have G3:=Lib.hid g3
      clear ho hg g3)
   | (go_at_call 151
      refine (KT.out _ _ G1.out).mono ?_
      rintro e w3 ⟨v2,rfl,g2⟩
      obtain⟨a2,c2,rfl⟩:=ByR.shape g2
      have hz2:w3.cell? ⟨g,11,none⟩=some (.int .i64 bk)∧w3.cell? ⟨g,12,none⟩=some (.int .i64 till):=⟨cell_of (g2.block 3 rfl) rfl,cell_of (g2.block 3 rfl) rfl⟩
      have G2:=Lib.hid g2
      clear g2)
   | (go_at_call 149
      refine (KB.out _ _ G0.out).mono ?_
      rintro e w2 ⟨v1,rfl,g1⟩
      obtain⟨a1,c1,rfl⟩:=ByR.shape g1
      have hz1:w2.cell? ⟨g,11,none⟩=some (.int .i64 bk)∧w2.cell? ⟨g,12,none⟩=some (.int .i64 till):=⟨cell_of (g1.block 2 rfl) rfl,cell_of (g1.block 2 rfl) rfl⟩
      have G1:=Lib.hid g1
      clear g1))
 clear hz0 hz1 hz2 hz3 G0 G1 G2 KB KT
 have y0:w4.cell? ⟨g,0,none⟩=some (.int .i64 4):=cell_of (G3.out.block 2 rfl) rfl
 have f0:w4.frozen? ⟨g+1,0,none⟩=false:=free_of (G3.out.block 1 rfl)
 have f1:w4.frozen? ⟨g+1,1,none⟩=false:=free_of (G3.out.block 1 rfl)
 have f2:w4.frozen? ⟨g+1,2,none⟩=false:=free_of (G3.out.block 1 rfl)
 have d0:w4.cell? ⟨g+1,0,none⟩=some (.int .i64 0):=cell_of (G3.out.block 1 rfl) rfl
 have d1:w4.cell? ⟨g+1,1,none⟩=some (.int .i64 0):=cell_of (G3.out.block 1 rfl) rfl
 have d2:w4.cell? ⟨g+1,2,none⟩=some (.slice none 0 0):=cell_of (G3.out.block 1 rfl) rfl
 have GE5:=Lib.hid (G3.out.setFull 1 rfl (xs:=[.int .i64 4,.int .i64 v,.slice a3 (be (u64 bk) 2++be (u64 till) 8).length c3]) (b:=g+1) (C:=#[.int .i64 0,.int .i64 0,.slice none 0 0]) (T:=85) rfl)
 have GE6:=Lib.hid (HB.out _ _ GE5.out)
 clear G3 HB
 go_wp2_with fail
 exact bodyPost_ret (results_cell_tmp_row Tryz.results71 _ _ (g+1) 85 _ (0,0) _ rfl (GE5.out.block 1 rfl) Tryz.underlying85 rfl (by kernel_rfl)) rfl GE6.out
theorem q_enc1 {src dst proto sport dport fbk fgen fseen gen bk till count:Int} {bks:List Bk} {A:Option Addr} {c:Nat} {v:Int} (hv:verOk v=true) (hm:mayRec ⟨1,⟨⟨src,dst,proto,sport,dport⟩,fbk,fgen,fseen⟩,gen,bks,bk,till,count⟩=true) (hw:WfR ⟨1,⟨⟨src,dst,proto,sport,dport⟩,fbk,fgen,fseen⟩,gen,bks,bk,till,count⟩) (hs:BksAt F0 w0 R A bks) (hl:bks.length≤1000000) (h:In F0 w0 w R) :
  Calls Tryz.prog 71 #[.agg #[.int .i64 1,.int .u32 src,.int .u32 dst,.int .i64 proto,.int .i64 sport,.int .i64 dport,.int .i64 fbk,.int .i64 fgen,.int .i64 fseen,.int .i64 gen,.slice A bks.length c,.int .i64 bk,.int .i64 till,.int .i64 count],.int .i64 v] w (REncPost (encRec ⟨1,⟨⟨src,dst,proto,sport,dport⟩,fbk,fgen,fseen⟩,gen,bks,bk,till,count⟩ v) F0 w0 R):=by
 obtain⟨hv1,hv3⟩:1≤v∧v≤3:=of_decide_eq_true hv
 have KV:Hid (∀ w,Calls Tryz.prog 51 #[.int .i64 v] w fun e w'=>e=.returned (.bool true)∧w'=w):=Lib.hid (fun w=>by rw [← hv];exact q_version v w)
 have h2:In F0 w0 ((w.alloc (.cells #[.int .i64 1,.int .u32 src,.int .u32 dst,.int .i64 proto,.int .i64 sport,.int .i64 dport,.int .i64 fbk,.int .i64 fgen,.int .i64 fseen,.int .i64 gen,.slice A bks.length c,.int .i64 bk,.int .i64 till,.int .i64 count] 45)).alloc (.cells #[.int .i64 0,.int .i64 0,.slice none 0 0] 85)) (Cells (w.heap.size+1) #[.int .i64 0,.int .i64 0,.slice none 0 0] 85::Cells w.heap.size #[.int .i64 1,.int .u32 src,.int .u32 dst,.int .i64 proto,.int .i64 sport,.int .i64 dport,.int .i64 fbk,.int .i64 fgen,.int .i64 fseen,.int .i64 gen,.slice A bks.length c,.int .i64 bk,.int .i64 till,.int .i64 count] 45::R):=by
  have h2:=(h.cells #[.int .i64 1,.int .u32 src,.int .u32 dst,.int .i64 proto,.int .i64 sport,.int .i64 dport,.int .i64 fbk,.int .i64 fgen,.int .i64 fseen,.int .i64 gen,.slice A bks.length c,.int .i64 bk,.int .i64 till,.int .i64 count] 45).cells #[.int .i64 0,.int .i64 0,.slice none 0 0] 85
  simp only [World.size_alloc] at h2
  exact h2
 have KM:Hid (Calls Tryz.prog 41 #[.agg #[.int .i64 1,.int .u32 src,.int .u32 dst,.int .i64 proto,.int .i64 sport,.int .i64 dport,.int .i64 fbk,.int .i64 fgen,.int .i64 fseen,.int .i64 gen,.slice A bks.length c,.int .i64 bk,.int .i64 till,.int .i64 count]] ((w.alloc (.cells #[.int .i64 1,.int .u32 src,.int .u32 dst,.int .i64 proto,.int .i64 sport,.int .i64 dport,.int .i64 fbk,.int .i64 fgen,.int .i64 fseen,.int .i64 gen,.slice A bks.length c,.int .i64 bk,.int .i64 till,.int .i64 count] 45)).alloc (.cells #[.int .i64 0,.int .i64 0,.slice none 0 0] 85)) fun e w'=>e=.returned (.bool true)∧In F0 w0 w' (Cells (w.heap.size+1) #[.int .i64 0,.int .i64 0,.slice none 0 0] 85::Cells w.heap.size #[.int .i64 1,.int .u32 src,.int .u32 dst,.int .i64 proto,.int .i64 sport,.int .i64 dport,.int .i64 fbk,.int .i64 fgen,.int .i64 fseen,.int .i64 gen,.slice A bks.length c,.int .i64 bk,.int .i64 till,.int .i64 count] 45::R)):=Lib.hid (by
  have:=o_qmay (r:=⟨1,⟨⟨src,dst,proto,sport,dport⟩,fbk,fgen,fseen⟩,gen,bks,bk,till,count⟩) (c:=c) (fun w' h'=>hs w' h'.drop.drop) hl h2
  rw [hm] at this;exact this)
 have hk:=mayRec_iff.1 hm
 simp only at hk
 have hf:MayF ⟨⟨src,dst,proto,sport,dport⟩,fbk,fgen,fseen⟩:=by
  rcases hk with h | h | h | h | h | h <;> first | exact h.2 | (exact absurd h.1 (by decide))
 have hg0:0≤fgen:=hf.g0
 have hg1:fgen≤1000000:=hf.g1
 have KT:Hid (∀ (W:World) (R':List Asrt),In F0 w0 W R'→Calls Tryz.prog 148 #[.agg #[.int .u32 src,.int .u32 dst,.int .i64 proto,.int .i64 sport,.int .i64 dport]] W fun e w'=>∃ v,e=.returned v∧In F0 w0 w' (ByR v (keyL ⟨src,dst,proto,sport,dport⟩)::R')):=Lib.hid (fun W R' h'=>q_tupb hw.t hf.t h')
 have KB:Hid (Q16 F0 w0 fbk):=Lib.hid (fun W R' h'=>q_u16 hf.b0 hf.b1 h')
 have KG:Hid (Q32 F0 w0 fgen):=Lib.hid (fun W R' h'=>q_u32 hg0 (by omega) h')
 have KS:Hid (∀ (W:World) (R':List Asrt),In F0 w0 W R'→Calls Tryz.prog 151 #[.int .i64 fseen] W fun e w'=>∃ v,e=.returned v∧In F0 w0 w' (ByR v (be (u64 fseen) 8)::R')):=Lib.hid (fun W R' h'=>q_i64 hf.t0 hf.t1 h')
 have hkl:=keyL_length ⟨src,dst,proto,sport,dport⟩
 have HB:Hid (∀ w' b,In F0 w0 w' (ByR b (recBody ⟨1,⟨⟨src,dst,proto,sport,dport⟩,fbk,fgen,fseen⟩,gen,bks,bk,till,count⟩ v)::Cells (w.heap.size+1) #[.int .i64 1,.int .i64 v,b] 85::Cells w.heap.size #[.int .i64 1,.int .u32 src,.int .u32 dst,.int .i64 proto,.int .i64 sport,.int .i64 dport,.int .i64 fbk,.int .i64 fgen,.int .i64 fseen,.int .i64 gen,.slice A bks.length c,.int .i64 bk,.int .i64 till,.int .i64 count] 45::R)→REncPost (encRec ⟨1,⟨⟨src,dst,proto,sport,dport⟩,fbk,fgen,fseen⟩,gen,bks,bk,till,count⟩ v) F0 w0 R (.returned (.tuple #[.agg #[.int .i64 1,.int .i64 v,b],.int .i64 0])) w'):=Lib.hid fun w' b h'=>by
  have e:encRec ⟨1,⟨⟨src,dst,proto,sport,dport⟩,fbk,fgen,fseen⟩,gen,bks,bk,till,count⟩ v=(⟨(1:Int).toNat,v.toNat,recBody ⟨1,⟨⟨src,dst,proto,sport,dport⟩,fbk,fgen,fseen⟩,gen,bks,bk,till,count⟩ v⟩,0):=by
   unfold encRec;rw [if_neg (by simp [hv]),if_neg (by simp [hm])]
   skip
  have hvn:((v.toNat:Nat):Int)=v:=Int.toNat_of_nonneg (by omega)
  rw [e]
  exact⟨b,by simp only;rw [hvn];rfl,h'.sel2 (R1:=[_,_,_]) (R2:=R) [0] (by decide) rfl⟩
 have B1:Hid (v < 2→recBody ⟨1,⟨⟨src,dst,proto,sport,dport⟩,fbk,fgen,fseen⟩,gen,bks,bk,till,count⟩ v=keyL ⟨src,dst,proto,sport,dport⟩++be (u64 fbk) 2):=Lib.hid (fun q=>by unfold recBody;simp only [if_pos];rw [if_neg (by omega),if_neg (by omega)];simp)
 have B2:Hid (v=2→recBody ⟨1,⟨⟨src,dst,proto,sport,dport⟩,fbk,fgen,fseen⟩,gen,bks,bk,till,count⟩ v=keyL ⟨src,dst,proto,sport,dport⟩++be (u64 fbk) 2++be (u64 fgen) 4):=Lib.hid (fun q=>by unfold recBody;simp only [if_pos];rw [if_pos (by omega),if_neg (by omega)];simp)
 have B3:Hid (3≤v→recBody ⟨1,⟨⟨src,dst,proto,sport,dport⟩,fbk,fgen,fseen⟩,gen,bks,bk,till,count⟩ v=keyL ⟨src,dst,proto,sport,dport⟩++be (u64 fbk) 2++be (u64 fgen) 4++be (u64 fseen) 8):=Lib.hid (fun q=>by unfold recBody;simp only [if_pos];rw [if_pos (by omega),if_pos (by omega)])
 have HKL:=Lib.hid hkl
 generalize hkey:keyL ⟨src,dst,proto,sport,dport⟩=key at *
 clear h h2 hs hl hv hw hm hk hf hkl hkey
 go_enter Tryz.func71,Tryz.ntmps71
 go_wp2_with fail
 refine (KV.out _).mono ?_
 rintro e w1 ⟨rfl,rfl⟩
 clear KV
 go_wp2_with fail
 refine KM.out.mono ?_
 rintro e w1 ⟨rfl,g1⟩
 clear KM
 generalize w.heap.size=g at *
 have k0:w1.cell? ⟨g,0,none⟩=some (.int .i64 1):=cell_of (g1.block 1 rfl) rfl
 have G0:=Lib.hid (g1.drewN 1)
 have hz0:(w1.drewN 1).cell? ⟨g,1,none⟩=some (.int .u32 src)∧(w1.drewN 1).cell? ⟨g,2,none⟩=some (.int .u32 dst)∧(w1.drewN 1).cell? ⟨g,3,none⟩=some (.int .i64 proto)∧(w1.drewN 1).cell? ⟨g,4,none⟩=some (.int .i64 sport)∧(w1.drewN 1).cell? ⟨g,5,none⟩=some (.int .i64 dport)∧(w1.drewN 1).cell? ⟨g,6,none⟩=some (.int .i64 fbk):=⟨cell_of (G0.out.block 1 rfl) rfl,cell_of (G0.out.block 1 rfl) rfl,cell_of (G0.out.block 1 rfl) rfl,cell_of (G0.out.block 1 rfl) rfl,cell_of (G0.out.block 1 rfl) rfl,cell_of (G0.out.block 1 rfl) rfl⟩
 clear g1
 have HV1:=Lib.hid hv1
 have HV3:=Lib.hid hv3
 clear hv1 hv3
 go_wp2_with fail
 go_region_held3 (fun w'=>w'.cell? ⟨g,1,none⟩=some (.int .u32 src)∧w'.cell? ⟨g,2,none⟩=some (.int .u32 dst)∧w'.cell? ⟨g,3,none⟩=some (.int .i64 proto)∧w'.cell? ⟨g,4,none⟩=some (.int .i64 sport)∧w'.cell? ⟨g,5,none⟩=some (.int .i64 dport)∧w'.cell? ⟨g,6,none⟩=some (.int .i64 fbk)) (first | exact hz3 | exact hz2 | exact hz1 | exact hz0)
  (first
   | (refine app_step rfl (by exact G2.out) 1 rfl (.tmp 28) (.tmp 32) 61 (by rfl) Tryz.underlying61 infoByte (by decide) (by decide) (by rfl) (by rfl) (by exact ByR.src G2.out 0 rfl) (u8s_one _) (by exact by rw [HKL.out,be_length];decide) ?_
      intro v3 w4 ho hg
      have hz3:w4.cell? ⟨g,1,none⟩=some (.int .u32 src)∧w4.cell? ⟨g,2,none⟩=some (.int .u32 dst)∧w4.cell? ⟨g,3,none⟩=some (.int .i64 proto)∧w4.cell? ⟨g,4,none⟩=some (.int .i64 sport)∧w4.cell? ⟨g,5,none⟩=some (.int .i64 dport)∧w4.cell? ⟨g,6,none⟩=some (.int .i64 fbk):=⟨cell_of (ho.block 3 rfl) rfl,cell_of (ho.block 3 rfl) rfl,cell_of (ho.block 3 rfl) rfl,cell_of (ho.block 3 rfl) rfl,cell_of (ho.block 3 rfl) rfl,cell_of (ho.block 3 rfl) rfl⟩
      have g3:=by_app (ho.sel2 (R1:=[_,_,_,_]) (R2:=R) [1,2,3] (by decide) rfl)
      generalize hb3:key++be (u64 fbk) 2=b3 at g3
      obtain⟨a3,c3,rfl⟩:=ByR.shape g3
      have G3:=Lib.hid g3
      have HB3:=Lib.hid hb3
      clear ho hg g3 hb3)
   | (go_at_call 149
      refine (KB.out _ _ G1.out).mono ?_
      rintro e w3 ⟨v2,rfl,g2⟩
      obtain⟨a2,c2,rfl⟩:=ByR.shape g2
      have hz2:w3.cell? ⟨g,1,none⟩=some (.int .u32 src)∧w3.cell? ⟨g,2,none⟩=some (.int .u32 dst)∧w3.cell? ⟨g,3,none⟩=some (.int .i64 proto)∧w3.cell? ⟨g,4,none⟩=some (.int .i64 sport)∧w3.cell? ⟨g,5,none⟩=some (.int .i64 dport)∧w3.cell? ⟨g,6,none⟩=some (.int .i64 fbk):=⟨cell_of (g2.block 3 rfl) rfl,cell_of (g2.block 3 rfl) rfl,cell_of (g2.block 3 rfl) rfl,cell_of (g2.block 3 rfl) rfl,cell_of (g2.block 3 rfl) rfl,cell_of (g2.block 3 rfl) rfl⟩
      have G2:=Lib.hid g2
      clear g2)
   | (go_at_call 148
      refine (KT.out _ _ G0.out).mono ?_
      rintro e w2 ⟨v1,rfl,g1⟩
      obtain⟨a1,c1,rfl⟩:=ByR.shape g1
      have hz1:w2.cell? ⟨g,1,none⟩=some (.int .u32 src)∧w2.cell? ⟨g,2,none⟩=some (.int .u32 dst)∧w2.cell? ⟨g,3,none⟩=some (.int .i64 proto)∧w2.cell? ⟨g,4,none⟩=some (.int .i64 sport)∧w2.cell? ⟨g,5,none⟩=some (.int .i64 dport)∧w2.cell? ⟨g,6,none⟩=some (.int .i64 fbk):=⟨cell_of (g1.block 2 rfl) rfl,cell_of (g1.block 2 rfl) rfl,cell_of (g1.block 2 rfl) rfl,cell_of (g1.block 2 rfl) rfl,cell_of (g1.block 2 rfl) rfl,cell_of (g1.block 2 rfl) rfl⟩
      have G1:=Lib.hid g1
      clear g1))
 clear hz0 hz1 hz2 hz3 G0 G1 G2 KB KT
 have HL3:Hid (b3.length=15):=Lib.hid (by rw [← HB3.out,List.length_append,HKL.out,be_length])
 by_cases q1:v < 2
 ·have b:=B1.out q1
  rw [b,HB3.out] at HB
  have hv1:=HV1.out
  clear B1 B2 B3 b KG KS hg0 hg1 HL3
  have y0:w4.cell? ⟨g,0,none⟩=some (.int .i64 1):=cell_of (G3.out.block 2 rfl) rfl
  have f0:w4.frozen? ⟨g+1,0,none⟩=false:=free_of (G3.out.block 1 rfl)
  have f1:w4.frozen? ⟨g+1,1,none⟩=false:=free_of (G3.out.block 1 rfl)
  have f2:w4.frozen? ⟨g+1,2,none⟩=false:=free_of (G3.out.block 1 rfl)
  have d0:w4.cell? ⟨g+1,0,none⟩=some (.int .i64 0):=cell_of (G3.out.block 1 rfl) rfl
  have d1:w4.cell? ⟨g+1,1,none⟩=some (.int .i64 0):=cell_of (G3.out.block 1 rfl) rfl
  have d2:w4.cell? ⟨g+1,2,none⟩=some (.slice none 0 0):=cell_of (G3.out.block 1 rfl) rfl
  have GE5:=Lib.hid (G3.out.setFull 1 rfl (xs:=[.int .i64 1,.int .i64 v,.slice a3 (b3).length c3]) (b:=g+1) (C:=#[.int .i64 0,.int .i64 0,.slice none 0 0]) (T:=85) rfl)
  have GE6:=Lib.hid (HB.out _ _ GE5.out)
  clear G3 HB
  go_wp2_with fail
  exact bodyPost_ret (results_cell_tmp_row Tryz.results71 _ _ (g+1) 85 _ (0,0) _ rfl (GE5.out.block 1 rfl) Tryz.underlying85 rfl (by kernel_rfl)) rfl GE6.out
 ·have k7:w4.cell? ⟨g,7,none⟩=some (.int .i64 fgen):=cell_of (G3.out.block 2 rfl) rfl
  have K7:=Lib.hid (KG.out _ _ G3.out)
  have q2:2≤v:=by omega
  clear G3 KG B1
  go_wp2_with fail
  refine K7.out.mono ?_
  rintro e w5 ⟨v5,rfl,g5⟩
  obtain⟨a5,c5,rfl⟩:=ByR.shape g5
  have G5:=Lib.hid g5
  have S5:=Lib.hid (ByR.src g5 0 rfl)
  have HL5:Hid (b3.length+(be (u64 fgen) 4).length≤1000000000):=Lib.hid (by rw [HL3.out,be_length];decide)
  clear g5 K7 hg0 hg1 k7
  go_wp2_with (at_builtin;refine app_list rfl G5.out 1 rfl (.tmp 36) (.tmp 41) 61 (by rfl) Tryz.underlying61 infoByte (by decide) (by decide) (by rfl) (by rfl) S5.out (u8s_one _) HL5.out ?_)
  intro v6 w6 ho hg
  have g6:=by_app (ho.sel2 (R1:=[_,_,_,_]) (R2:=R) [1,2,3] (by decide) rfl)
  generalize hb6:b3++be (u64 fgen) 4=b6 at g6
  obtain⟨a6,c6,rfl⟩:=ByR.shape g6
  have G6:=Lib.hid g6
  have HB6:=Lib.hid hb6
  clear ho hg g6 G5 S5 HL5
  have HL6:Hid (b6.length=19):=Lib.hid (by rw [← hb6,List.length_append,HL3.out,be_length])
  clear HL3 hb6
  by_cases q3:v < 3
  ·have b:=B2.out (by omega)
   rw [b,HB3.out,HB6.out] at HB
   clear B2 B3 b KS HL6 q1
   have y0:w6.cell? ⟨g,0,none⟩=some (.int .i64 1):=cell_of (G6.out.block 2 rfl) rfl
   have f0:w6.frozen? ⟨g+1,0,none⟩=false:=free_of (G6.out.block 1 rfl)
   have f1:w6.frozen? ⟨g+1,1,none⟩=false:=free_of (G6.out.block 1 rfl)
   have f2:w6.frozen? ⟨g+1,2,none⟩=false:=free_of (G6.out.block 1 rfl)
   have d0:w6.cell? ⟨g+1,0,none⟩=some (.int .i64 0):=cell_of (G6.out.block 1 rfl) rfl
   have d1:w6.cell? ⟨g+1,1,none⟩=some (.int .i64 0):=cell_of (G6.out.block 1 rfl) rfl
   have d2:w6.cell? ⟨g+1,2,none⟩=some (.slice none 0 0):=cell_of (G6.out.block 1 rfl) rfl
   have GE5:=Lib.hid (G6.out.setFull 1 rfl (xs:=[.int .i64 1,.int .i64 v,.slice a6 (b6).length c6]) (b:=g+1) (C:=#[.int .i64 0,.int .i64 0,.slice none 0 0]) (T:=85) rfl)
   have GE6:=Lib.hid (HB.out _ _ GE5.out)
   clear G6 HB
   go_wp2_with fail
   exact bodyPost_ret (results_cell_tmp_row Tryz.results71 _ _ (g+1) 85 _ (0,0) _ rfl (GE5.out.block 1 rfl) Tryz.underlying85 rfl (by kernel_rfl)) rfl GE6.out
  ·have k8:w6.cell? ⟨g,8,none⟩=some (.int .i64 fseen):=cell_of (G6.out.block 2 rfl) rfl
   have K8:=Lib.hid (KS.out _ _ G6.out)
   have b:=B3.out (by omega)
   rw [b,HB3.out,HB6.out] at HB
   have q4:3≤v:=by omega
   clear G6 KS B2 B3 b q1 q2 q3
   go_wp2_with fail
   refine K8.out.mono ?_
   rintro e w7 ⟨v7,rfl,g7⟩
   obtain⟨a7,c7,rfl⟩:=ByR.shape g7
   have G7:=Lib.hid g7
   have S7:=Lib.hid (ByR.src g7 0 rfl)
   have HL7:Hid (b6.length+(be (u64 fseen) 8).length≤1000000000):=Lib.hid (by rw [HL6.out,be_length];decide)
   clear g7 K8 k8 HL6
   go_wp2_with (at_builtin;refine app_list rfl G7.out 1 rfl (.tmp 45) (.tmp 49) 61 (by rfl) Tryz.underlying61 infoByte (by decide) (by decide) (by rfl) (by rfl) S7.out (u8s_one _) HL7.out ?_)
   intro v8 w8 ho hg
   have g8:=by_app (ho.sel2 (R1:=[_,_,_,_]) (R2:=R) [1,2,3] (by decide) rfl)
   generalize hb8:b6++be (u64 fseen) 8=b8 at g8
   rw [hb8] at HB
   obtain⟨a8,c8,rfl⟩:=ByR.shape g8
   have G8:=Lib.hid g8
   clear ho hg g8 G7 S7 HL7 hb8
   have y0:w8.cell? ⟨g,0,none⟩=some (.int .i64 1):=cell_of (G8.out.block 2 rfl) rfl
   have f0:w8.frozen? ⟨g+1,0,none⟩=false:=free_of (G8.out.block 1 rfl)
   have f1:w8.frozen? ⟨g+1,1,none⟩=false:=free_of (G8.out.block 1 rfl)
   have f2:w8.frozen? ⟨g+1,2,none⟩=false:=free_of (G8.out.block 1 rfl)
   have d0:w8.cell? ⟨g+1,0,none⟩=some (.int .i64 0):=cell_of (G8.out.block 1 rfl) rfl
   have d1:w8.cell? ⟨g+1,1,none⟩=some (.int .i64 0):=cell_of (G8.out.block 1 rfl) rfl
   have d2:w8.cell? ⟨g+1,2,none⟩=some (.slice none 0 0):=cell_of (G8.out.block 1 rfl) rfl
   have GE5:=Lib.hid (G8.out.setFull 1 rfl (xs:=[.int .i64 1,.int .i64 v,.slice a8 (b8).length c8]) (b:=g+1) (C:=#[.int .i64 0,.int .i64 0,.slice none 0 0]) (T:=85) rfl)
   have GE6:=Lib.hid (HB.out _ _ GE5.out)
   clear G8 HB
   go_wp2_with fail
   exact bodyPost_ret (results_cell_tmp_row Tryz.results71 _ _ (g+1) 85 _ (0,0) _ rfl (GE5.out.block 1 rfl) Tryz.underlying85 rfl (by kernel_rfl)) rfl GE6.out
end
end Go.Proofs.YtaopfagclnocdaaGreat
