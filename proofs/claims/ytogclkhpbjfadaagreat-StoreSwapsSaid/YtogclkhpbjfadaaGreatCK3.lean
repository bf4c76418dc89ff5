/- Parts of the proofs that a compaction keeps what lives, and done again is as once. -/
import Derived.Test.YtogclkhpbjfadaaGreatChecked
import Derived.Test.YtogclkhpbjfadaaGreatCK2
import Derived.Deep.RegionLaw
import Derived.WalkSpells
import Derived.Test.YtogclkhpbjfadaaGreatCK1
import Derived.Laws.BytesString
import Derived.Deep.RegionHeld3
namespace Go.Proofs.YtogclkhpbjfadaaGreat
open Go.RowKit
set_option linter.unusedVariables false
set_option maxHeartbeats 64000000
set_option maxRecDepth 100000
def eD (l:List UInt8):List Value:=l.map (fun b=>Value.int .u8 b.toNat)
theorem il (l:List UInt8):(eD l).length=l.length:=List.length_map _
theorem uI (l l':List UInt8):eD l++eD l'=eD (l++l'):=by simp [eD]
theorem Ab (l:List UInt8) (m:Nat):(eD l).take m=eD (l.take m):=by simp [eD,List.map_take]
theorem Ac (l:List UInt8) (m:Nat):(eD l).drop m=eD (l.drop m):=by simp [eD,List.map_drop]
theorem vP (l:List UInt8):∀ u∈eD l,u.oneCell'=true:=by
 intro u hu
 obtain⟨b,_,rfl⟩:=List.mem_map.1 hu
 rfl
def LH (bw:Nat) (v:Value) (l:List UInt8):List az:=[Cells bw #[v] 216,ay 5 1 v l.length (eD l)]
theorem LH.aA {bw:Nat} {v:Value} {l:List UInt8}:∀ A∈LH bw v l,bC A:=by
 intro A hA
 simp only [LH,List.mem_cons,List.not_mem_nil,or_false] at hA
 rcases hA with rfl | rfl
 ·exact Cells.aA _ _ _
 ·exact ay.aA _ _ _ _ _
def WA (bw:Nat) (l:List UInt8):az:=fun w F=>∃ v,Star (LH bw v l) w F
theorem WA.aA (bw:Nat) (l:List UInt8):bC (WA bw l):=by
 refine⟨?_,?_⟩
 ·rintro w w' F ⟨v,h⟩ hk;exact⟨v,(bC.star LH.aA).keep h hk⟩
 ·rintro w F ⟨v,h⟩;exact (bC.star LH.aA).lt h
def vQ (n width i:Nat):List UInt8:=(List.range i).map (fun j=>UInt8.ofNat (n / 256 ^ (width - 1 - j)))
def be (n width:Nat):List UInt8:=vQ n width width
theorem jG (n width i:Nat):(vQ n width i).length=i:=by simp [vQ]
theorem CG (n width i:Nat):vQ n width (i+1)=vQ n width i++[UInt8.ofNat (n / 256 ^ (width - 1 - i))]:=by simp [vQ,List.range_succ]
theorem infoByte:(Tryz.prog.info? 5).map (fun i=>(i.zero.map (fun z=>z.cells.size),i.size,i.bytes))=some (some 1,1,1):=by kernel_rfl
def zx (bw:Nat) (l:List UInt8) (n width:Nat) (w:World) (F:List Nat) (k:Value) (wr:World):Prop:=
 ∃ (i:Nat) (v:Value),k=.int .i64 i∧i≤width∧In F w wr (LH bw v (l++vQ n width i))
theorem TU (s:Nat):(2:Int) ^ (8 * s)=((256 ^ s:Nat):Int):=by
 rw [Int.pow_mul];simp
theorem TV (n s:Nat):IntKind.u8.wrap ((n:Int) / 2 ^ (8 * s))=((UInt8.ofNat (n / 256 ^ s)).toNat:Int):=by
 rw [TU,← Int.natCast_ediv]
 show ((n / 256 ^ s:Nat):Int) % 256=_
 simp
theorem aao {w:World} {bw:Nat} {l:List UInt8} {F:List Nat} (h:WA bw l w F) (hl:l.length≤1000000) (n width:Nat) (hn:n < 18446744073709551616) (hw1:width≤8) :
  Calls Tryz.prog 222 #[.pointer (some ⟨bw,0,none⟩),.int .u64 n,.int .i64 width] w (GV (.tuple #[]) (WA bw (l++be n width)) w F):=by
 obtain⟨v,h⟩:=h
 have HS:Hid (zx bw l n width w F (.int .i64 0) w):=Lib.hid ⟨0,v,rfl,Nat.zero_le _,by simpa [vQ] using In.start LH.aA h⟩
 clear h
 go_enter Tryz.func222,Tryz.ntmps222
 go_wp2_with fail
 go_loopw [10] (zx bw l n width w F) (fun k _=>width - (intOf k).toNat)
 case atStart=>exact HS.out
 case round=>
  obtain⟨i,v,rfl,hi,ho⟩:=hrel
  clear HS
  by_cases hlt:i < width
  ·have hlt':(i:Int) < (width:Int):=by omega
   obtain⟨Fr,hr⟩:=ho.get 1 rfl
   obtain⟨a,cap,rfl,-,-,-⟩:=hr.shape
   have hlen:(l++vQ n width i).length≤1000008:=by rw [List.length_append,jG];omega
   have HR:Hid (∀ v wz,In F w wz (LH bw v (l++vQ n width i++[UInt8.ofNat (n / 256 ^ (width - 1 - i))]))→zx bw l n width w F (.int .i64 (i+1)) wz):=
    Lib.hid fun v wz hz=>⟨i+1,v,by congr 1,by omega,by rw [CG,← List.append_assoc];exact hz⟩
   generalize l++vQ n width i=m at *
   have HO:=Lib.hid ho
   have c0:wr.cell? ⟨bw,0,none⟩=some (.slice a m.length cap):=cell_of (ho.block 0 rfl) rfl
   have c1:∀ o,(wr.alloc o).cell? ⟨bw,0,none⟩=some (.slice a m.length cap):=fun o=>cell_of ((ho.alloc o).block 0 rfl) rfl
   have e1:IntKind.i64.wrap ((width:Int) - 1)=(width:Int) - 1:=by rw [IntKind.wrap_i64];omega
   have e2:IntKind.i64.wrap ((width:Int) - 1 - (i:Int))=(width:Int) - 1 - (i:Int):=by rw [IntKind.wrap_i64];omega
   have e3:IntKind.i64.wrap (8 * ((width:Int) - 1 - (i:Int)))=8 * ((width:Int) - 1 - (i:Int)):=by rw [IntKind.wrap_i64];omega
   have e4:(8 * ((width:Int) - 1 - (i:Int))).toNat=8 * (width - 1 - i):=by omega
   have b1:(0:Int)≤8 * ((width:Int) - 1 - (i:Int)):=by omega
   have b2:8 * ((width:Int) - 1 - (i:Int))≤64:=by omega
   clear ho hr hlt
   go_wp2_with fail
   go_region_law
    (first
     | (refine mO rfl (R:=Cells _ _ 5::LH bw (.slice a m.length cap) m) (by exact (HO.out.drewN 1).cells _ _) 2 rfl (.tmp 17) (.tmp 26) 23 (by rfl) Tryz.underlying23 infoByte (by decide) (by decide) (by rfl) (by rfl) (by exact Src.of_block (((HO.out.drewN 1).cells _ _).block 0 rfl) rfl) (fun u hu=>by simp at hu;subst hu;rfl) (by omega) ?_
        intro v1 w3 ho1 hg1
        have hc1:w3.cell? ⟨bw,0,none⟩=some (.slice a m.length cap):=cell_of (ho1.block 1 rfl) rfl
        have hf1:w3.frozen? ⟨bw,0,none⟩=false:=aL (ho1.block 1 rfl)
        obtain⟨F1,hr1⟩:=ho1.get 2 rfl
        obtain⟨a1,MV,rfl,-,-,-⟩:=hr1.shape
        clear hr1
        have H1:=Lib.hid ho1
        clear ho1 hg1))
   all_goals
    have HE:Hid (zx bw l n width w F (.int .i64 (i+1)) (w3.setCell ⟨bw,0,none⟩ (.slice a1 (m.length+1) MV))):=by
     have h2:=(H1.out.put 1 rfl 0 (.slice a1 (m.length+1) MV)).sel [1,2] (by decide) rfl
     refine Lib.hid (HR.out (.slice a1 (m.length+1) MV) _ ?_)
     unfold LH
     rw [← uI,List.length_append]
     have e:(IntKind.u8.wrap ((n:Int) / 2 ^ (8 * (width - 1 - i))))=((UInt8.ofNat (n / 256 ^ (width - 1 - i))).toNat:Int):=TV n _
     rw [e] at h2
     exact h2
    clear e1 e2 e3 e4
    go_wp2_with fail
    go_roundw
    case rel=>exact HE.out
    case measure=>simp [intOf];omega
  ·have hge:(width:Int)≤(i:Int):=by omega
   have hil:i=width:=by omega
   subst hil
   have HG:Hid (GV (.tuple #[]) (WA bw (l++be n i)) w F (.returned (.tuple #[])) wr):=Lib.hid (GV.mk ho (fun F' hs=>⟨v,hs⟩))
   clear ho hlt
   go_wp2_with fail
   go_end0
   exact HG.out
def u64 (n:Int):Nat:=(n % 18446744073709551616).toNat
theorem Jt (n:Int):IntKind.u64.wrap n=((u64 n:Nat):Int):=by
 have:IntKind.u64.wrap n=n % 18446744073709551616:=by simp [IntKind.wrap,IntKind.bits,IntKind.signed]
 rw [this];unfold u64;omega
theorem Eg (n:Int):u64 n < 18446744073709551616:=by unfold u64;omega
theorem Eh {n:Int} (h0:0≤n) (h1:n < 18446744073709551616):((u64 n:Nat):Int)=n:=by unfold u64;omega
section
variable {F0:List Nat} {w0 w:World} {R:List az} {bw:Nat} {l:List UInt8}
theorem Ei (h:In F0 w0 w R) (i:Nat) (hA:R[i]?=some (WA bw l)) (hl:l.length≤1000000) (n width:Nat) (hn:n < 18446744073709551616) (hw1:width≤8) :
  Calls Tryz.prog 222 #[.pointer (some ⟨bw,0,none⟩),.int .u64 n,.int .i64 width] w fun e w'=>e=.returned (.tuple #[])∧In F0 w0 w' (R.set i (WA bw (l++be n width))):=
 qN h i hA (WA.aA _ _) fun F hF=>aao hF hl n width hn hw1
theorem LJ (h:In F0 w0 w R) (i:Nat) (hA:R[i]?=some (WA bw l)) (hl:l.length≤1000000) (n:Int) :
  Calls Tryz.prog 154 #[.pointer (some ⟨bw,0,none⟩),.int .i64 n] w fun e w'=>e=.returned (.tuple #[])∧In F0 w0 w' (R.set i (WA bw (l++be (u64 n) 1))):=by
 have c:=Lib.hid (Ei h i hA hl (u64 n) 1 (Eg n) (by omega))
 rw [← Jt] at c
 clear h hA hl
 go_enter Tryz.func154,Tryz.ntmps154
 go_wp2_with fail
 refine c.out.mono ?_
 rintro e w1 ⟨rfl,ho⟩
 have HO:=Lib.hid ho
 clear ho c
 go_wp2_with fail
 go_end0
 exact⟨rfl,HO.out⟩
theorem Ad (h:In F0 w0 w R) (i:Nat) (hA:R[i]?=some (WA bw l)) (hl:l.length≤1000000) (n:Int) :
  Calls Tryz.prog 155 #[.pointer (some ⟨bw,0,none⟩),.int .i64 n] w fun e w'=>e=.returned (.tuple #[])∧In F0 w0 w' (R.set i (WA bw (l++be (u64 n) 2))):=by
 have c:=Lib.hid (Ei h i hA hl (u64 n) 2 (Eg n) (by omega))
 rw [← Jt] at c
 clear h hA hl
 go_enter Tryz.func155,Tryz.ntmps155
 go_wp2_with fail
 refine c.out.mono ?_
 rintro e w1 ⟨rfl,ho⟩
 have HO:=Lib.hid ho
 clear ho c
 go_wp2_with fail
 go_end0
 exact⟨rfl,HO.out⟩
theorem uJ (h:In F0 w0 w R) (i:Nat) (hA:R[i]?=some (WA bw l)) (hl:l.length≤1000000) {n:Int} (h0:0≤n) (h1:n < 4294967296) :
  Calls Tryz.prog 156 #[.pointer (some ⟨bw,0,none⟩),.int .u32 n] w fun e w'=>e=.returned (.tuple #[])∧In F0 w0 w' (R.set i (WA bw (l++be (u64 n) 4))):=by
 have c:=Lib.hid (Ei h i hA hl (u64 n) 4 (Eg n) (by omega))
 rw [Eh h0 (by omega)] at c
 clear h hA hl
 go_enter Tryz.func156,Tryz.ntmps156
 go_wp2_with fail
 refine c.out.mono ?_
 rintro e w1 ⟨rfl,ho⟩
 have HO:=Lib.hid ho
 clear ho c
 go_wp2_with fail
 go_end0
 exact⟨rfl,HO.out⟩
theorem In.row0 (h:In F0 w0 w R) (i:Nat) {g:Nat} {T:TypeId} {k:Nat} (hA:R[i]?=some (Cells g #[] T)):In F0 w0 w (R.set i (ay T k (.slice (some ⟨g,0,none⟩) 0 0) 0 [])):=
 h.imp i hA (ay.aA _ _ _ _ _) fun F hF=>⟨by rw [hF.1];simp [Value.ownBlock],by simp,Or.inr ⟨g,0,#[],rfl,Nat.zero_le _,hF.2,Nat.le_refl _,by unfold maxLen;omega,by simp,by simp⟩⟩
theorem uK (h:In F0 w0 w R) {ad:Addr} {n c:Nat} (hs:Src w (some ad) n 1 (eD l)) (hn:n≤100000000) :
  Calls Tryz.prog 132 #[.slice (some ad) n c] w fun e w'=>∃ v,e=.returned v∧In F0 w0 w' (ay 5 1 v n (eD l)::R):=by
 have HH:=Lib.hid h
 have HS:=Lib.hid hs
 clear h hs
 have hq:∀ (w:World) (a:Option Addr) (n c n' c':Nat),(binOp .eql 23 (.slice a n c) (.slice none n' c')).run Tryz.prog w=.ok (.bool a.isNone) w:=fun w a n c n' c'=>Lib.run_eql_slice_nil w _ _ a n c n' c' Tryz.underlying23
 go_enter Tryz.func132,Tryz.ntmps132
 go_wp2_with (at_builtin;refine iP rfl ((HH.out.cells #[] 5).row0 (k:=1) 0 rfl) 0 rfl (.tmp 5) (.tmp 6) 23 (by rfl) Tryz.underlying23 infoByte (by decide) (by decide) (by rfl) (by rfl) (tN HS.out _) (vP _) (by omega) ?_)
 intro v' w3 ho hg
 have HO:=Lib.hid ho
 clear ho hg
 go_wp2_with fail
 go_ret
 exact⟨_,rfl,HO.out⟩
theorem uL (h:In F0 w0 w R):Calls Tryz.prog 132 #[.slice none 0 0] w fun e w'=>∃ v,e=.returned v∧In F0 w0 w' (ay 5 1 v 0 (eD [])::R):=by
 have HH:=Lib.hid (h.dG 5 1)
 clear h
 have hq:∀ (w:World) (a:Option Addr) (n c n' c':Nat),(binOp .eql 23 (.slice a n c) (.slice none n' c')).run Tryz.prog w=.ok (.bool a.isNone) w:=fun w a n c n' c'=>Lib.run_eql_slice_nil w _ _ a n c n' c' Tryz.underlying23
 go_enter Tryz.func132,Tryz.ntmps132
 go_wp2_with fail
 go_ret
 exact⟨_,rfl,HH.out⟩
theorem WA.read {F:List Nat} (h:WA bw l w F):∃ v,w.heap[bw]?=some (.cells #[v] 216 (0,0))∧((v=.slice none 0 0∧l=[])∨∃ g cap,v=.slice (some ⟨g,0,none⟩) l.length cap∧Src w (some ⟨g,0,none⟩) l.length 1 (eD l)):=by
 obtain⟨v,F1,F2,h1,⟨F3,F4,h3,_⟩,_⟩:=h
 refine⟨v,h1.2,?_⟩
 obtain⟨a,cap,rfl,-,-,-⟩:=h3.shape
 have hs:=h3.all
 obtain⟨_,_,h4 | ⟨g,c,cur,e,_⟩⟩:=h3
 ·left;exact⟨h4.1,List.length_eq_zero_iff.1 h4.2⟩
 ·right;cases e;exact⟨g,cap,rfl,hs⟩
theorem vR (h:In F0 w0 w R) (i:Nat) (hA:R[i]?=some (WA bw l)) (hl:l.length≤1000000) :
  Calls Tryz.prog 158 #[.pointer (some ⟨bw,0,none⟩)] w fun e w'=>∃ v,e=.returned v∧In F0 w0 w' (ay 5 1 v l.length (eD l)::R):=by
 obtain⟨F,hF⟩:=h.get i hA
 obtain⟨v,hb,hv⟩:=hF.read
 have c0:w.cell? ⟨bw,0,none⟩=some v:=cell_of hb rfl
 rcases hv with ⟨rfl,rfl⟩|⟨g,cap,rfl,hs⟩
 ·have C:=Lib.hid (uL h)
  clear h hF hb hA
  go_enter Tryz.func158,Tryz.ntmps158
  go_wp2_with fail
  refine C.out.mono ?_
  rintro e w1 ⟨v,rfl,ho⟩
  have HO:=Lib.hid ho
  clear ho C
  go_wp2_with fail
  go_ret
  exact⟨_,rfl,HO.out⟩
 ·have C:=Lib.hid (uK (c:=cap) h hs (by omega))
  clear h hF hb hA hs
  go_enter Tryz.func158,Tryz.ntmps158
  go_wp2_with fail
  refine C.out.mono ?_
  rintro e w1 ⟨v,rfl,ho⟩
  have HO:=Lib.hid ho
  clear ho C
  go_wp2_with fail
  go_ret
  exact⟨_,rfl,HO.out⟩
theorem rV:∀ (l:List UInt8) (s:ByteArray),(l.map (fun b=>(b.toNat:Int))).foldl (fun r n=>r.push (UInt8.ofNat n.toNat)) s=⟨s.data++l.toArray⟩
 | [],s=>by simp
 | b::r,s=>by
  rw [List.map_cons,List.foldl_cons,rV r]
  congr 1
  have:UInt8.ofNat ((b.toNat:Int)).toNat=b:=by simp
  rw [this]
  show s.data.push b++r.toArray=_
  simp
theorem Ju (l:List UInt8):(l.map (fun b=>(b.toNat:Int))).foldl (fun r n=>r.push (UInt8.ofNat n.toNat)) ByteArray.empty=⟨l.toArray⟩:=by
 rw [rV]
 congr 1
 simp
theorem Gx {a:Option Addr} {n cap:Nat} (hs:Src w a n 1 (eD l)) (ha:a=none→n=0) :
  (convert 23 9 (.slice a n cap)).run Tryz.prog w=.ok (.string ⟨l.toArray⟩) w:=by
 have hl:l.length=n:=by have:=hs.len;rw [il] at this;omega
 rw [run_convert_bytes_string w 23 9 5 _ _ _ Tryz.underlying23 Tryz.underlying5 Tryz.underlying9]
 cases a with
 | none=>
  have h0:=ha rfl
  subst h0
  have:l=[]:=List.length_eq_zero_iff.1 hl
  subst this
  simp [Conv.bytesToString]
  rfl
 | some ad=>
  rw [run_bytesToString w ad n cap (l.map (fun b=>(b.toNat:Int)))]
  ·rw [Ju]
  ·have e:(l.map (fun b=>(b.toNat:Int))).map (Value.int .u8)=eD l:=by simp [eD]
   rw [e,← hl,← il l]
   refine run_loadCells_list (P:=Tryz.prog) w ad (eD l) (fun j v hv=>?_)
   have h0:0 < n:=by
    have:=(List.getElem?_eq_some_iff.1 hv).1
    rw [il] at this;omega
   obtain⟨ad',e',hc⟩:=hs.at' h0
   cases e'
   exact hc j v hv
end
structure rU where
 src:Int
 dst:Int
 proto:Int
 ag:Int
 ah:Int
deriving DecidableEq
instance:Inhabited rU:=⟨⟨0,0,0,0,0⟩⟩
structure Fl where
 t:rU
 bk:Int
 gen:Int
 seen:Int
deriving DecidableEq
instance:Inhabited Fl:=⟨⟨default,0,0,0⟩⟩
abbrev dH (t:rU):Array Value:=#[.int .u32 t.src,.int .u32 t.dst,.int .i64 t.proto,.int .i64 t.ag,.int .i64 t.ah]
abbrev eG (f:Fl):Array Value:=#[.int .u32 f.t.src,.int .u32 f.t.dst,.int .i64 f.t.proto,.int .i64 f.t.ag,.int .i64 f.t.ah,.int .i64 f.bk,.int .i64 f.gen,.int .i64 f.seen]
structure Gy (t:rU):Prop where
 s0:0≤t.src
 s1:t.src < 4294967296
 d0:0≤t.dst
 d1:t.dst < 4294967296
 p0:-9223372036854775808≤t.proto
 p1:t.proto≤9223372036854775807
 Zi:-9223372036854775808≤t.ag
 sp1:t.ag≤9223372036854775807
 Zj:-9223372036854775808≤t.ah
 dp1:t.ah≤9223372036854775807
structure rW (t:rU):Prop where
 proto:t.proto=6∨t.proto=17
 Zi:0≤t.ag
 sp1:t.ag≤65535
 Zj:0≤t.ah
 dp1:t.ah≤65535
structure uM (f:Fl):Prop where
 t:rW f.t
 b0:0≤f.bk
 b1:f.bk≤65535
 g0:0≤f.gen
 g1:f.gen≤1000000
 t0:0≤f.seen
 t1:f.seen≤1099511627776
theorem Gz (t:rU):rW t↔(t.proto=6∨t.proto=17)∧0≤t.ag∧t.ag≤65535∧0≤t.ah∧t.ah≤65535:=⟨fun h=>⟨h.1,h.2,h.3,h.4,h.5⟩,fun ⟨a,b,c,d,e⟩=>⟨a,b,c,d,e⟩⟩
instance (t:rU):Decidable (rW t):=decidable_of_iff _ (Gz t).symm
theorem GD (f:Fl):uM f↔rW f.t∧0≤f.bk∧f.bk≤65535∧0≤f.gen∧f.gen≤1000000∧0≤f.seen∧f.seen≤1099511627776:=⟨fun h=>⟨h.1,h.2,h.3,h.4,h.5,h.6,h.7⟩,fun ⟨a,b,c,d,e,f,g⟩=>⟨a,b,c,d,e,f,g⟩⟩
instance (f:Fl):Decidable (uM f):=decidable_of_iff _ (GD f).symm
def oz (t:rU):List UInt8:=be (u64 t.src) 4++be (u64 t.dst) 4++be (u64 t.proto) 1++be (u64 t.ag) 2++be (u64 t.ah) 2
def aba (t:rU):ByteArray:=⟨(oz t).toArray⟩
theorem iI (t:rU):(oz t).length=13:=by simp [oz,be,jG]
def uw (a b:rU):Bool:=
 decide (a.src < b.src) || (decide (a.src=b.src) && (decide (a.dst < b.dst) || (decide (a.dst=b.dst) && (decide (a.proto < b.proto) || (decide (a.proto=b.proto) && (decide (a.ag < b.ag) || (decide (a.ag=b.ag) && decide (a.ah < b.ah))))))))
theorem zy (n w:Nat):be n (w+1)=UInt8.ofNat (n / 256 ^ w)::be n w:=by
 unfold be vQ
 rw [List.range_succ_eq_map,List.map_cons,List.map_map]
 simp only [Nat.add_sub_cancel,Nat.sub_zero,List.cons.injEq,true_and]
 apply List.map_congr_left
 intro j hj
 have:=List.mem_range.1 hj
 simp only [Function.comp]
 congr 3
 omega
theorem TW (n:Nat):be n 0=[]:=rfl
theorem Jv (n w:Nat):∀ v,v≤w→be (n % 256 ^ w) v=be n v
 | 0,_=>rfl
 | v+1,h=>by
  rw [zy,zy,Jv n w v (by omega)]
  congr 1
  obtain⟨k,rfl⟩:∃ k,w=v+1+k:=⟨w - (v+1),by omega⟩
  have e:n % 256 ^ (v+1+k) / 256 ^ v=n / 256 ^ v % 256 ^ (1+k):=by
   rw [show v+1+k=v+(1+k) by omega,Nat.pow_add,Nat.mod_mul_right_div_self]
  rw [e]
  apply UInt8.toNat_inj.1
  simp only [UInt8.toNat_ofNat']
  rw [show (256:Nat) ^ (1+k)=2 ^ 8 * 256 ^ k by rw [Nat.pow_add],Nat.mod_mul_right_mod]
theorem Zk:∀ (w:Nat) {n m:Nat},n < 256 ^ w→m < 256 ^ w→bl (be n w) (be m w)=decide (n < m)
 | 0,n,m,hn,hm=>by
  simp at hn hm;subst hn;subst hm;simp [TW,bl,Op.bytesLess]
 | w+1,n,m,hn,hm=>by
  rw [zy,zy,vN]
  have hp:0 < 256 ^ w:=Nat.pos_of_ne_zero (by simp)
  have h1:n / 256 ^ w < 256:=by rw [Nat.div_lt_iff_lt_mul hp,Nat.mul_comm,← Nat.pow_succ];exact hn
  have h2:m / 256 ^ w < 256:=by rw [Nat.div_lt_iff_lt_mul hp,Nat.mul_comm,← Nat.pow_succ];exact hm
  have ih:=Zk w (Nat.mod_lt n hp) (Nat.mod_lt m hp)
  rw [Jv n w w (Nat.le_refl _),Jv m w w (Nat.le_refl _)] at ih
  rw [ih]
  have e1:(UInt8.ofNat (n / 256 ^ w)).toNat=n / 256 ^ w:=by simp;omega
  have e2:(UInt8.ofNat (m / 256 ^ w)).toNat=m / 256 ^ w:=by simp;omega
  have d1:=Nat.div_add_mod n (256 ^ w)
  have d2:=Nat.div_add_mod m (256 ^ w)
  have m1:=Nat.mod_lt n hp
  have m2:=Nat.mod_lt m hp
  rw [Bool.eq_iff_iff]
  simp only [Bool.or_eq_true,Bool.and_eq_true,decide_eq_true_eq,UInt8.lt_iff_toNat_lt,beq_iff_eq,e1,e2]
  generalize 256 ^ w=p at *
  generalize hA:n / p=A at *
  generalize hB:m / p=B at *
  constructor
  ·rintro (h | ⟨h,h'⟩)
   ·have:p * (A+1)≤p * B:=Nat.mul_le_mul_left _ h
    rw [Nat.mul_add,Nat.mul_one] at this
    omega
   ·have h3:A=B:=by
     have:=congrArg UInt8.toNat h;rw [e1,e2] at this;exact this
    subst h3;omega
  ·intro h
   by_cases hc:A < B
   ·exact Or.inl hc
   ·right
    by_cases hd:A=B
    ·subst hd;exact⟨rfl,by omega⟩
    ·have:p * (B+1)≤p * A:=Nat.mul_le_mul_left _ (by omega)
     rw [Nat.mul_add,Nat.mul_one] at this
     omega
theorem MW {n:Int} (h0:0≤n) {k:Nat} (h1:n < k) (hk:k≤18446744073709551616):u64 n < k∧((u64 n:Nat):Int)=n:=by
 have:=Eh h0 (by omega)
 exact⟨by omega,this⟩
theorem tO {a b:rU} (h1:uw a b=false) (h2:uw b a=false):a=b:=by
 obtain⟨a1,a2,a3,a4,a5⟩:=a
 obtain⟨b1,b2,b3,b4,b5⟩:=b
 simp only [uw,Bool.or_eq_false_iff,Bool.and_eq_false_iff,decide_eq_false_iff_not] at h1 h2
 simp only [rU.mk.injEq]
 omega
theorem iq (a:rU):uw a a=false:=by simp [uw]
theorem mh {a b c:rU} (h1:uw a b=true) (h2:uw b c=true):uw a c=true:=by
 simp only [uw,Bool.or_eq_true,Bool.and_eq_true,decide_eq_true_eq] at *
 omega
theorem MX {t:rU} (h:rW t) (w:World):Calls Tryz.prog 183 #[.agg (dH t)] w fun e w'=>e=.returned (.bool true)∧w'=w.alloc (.cells (dH t) 65):=by
 obtain⟨h1,h2,h3,h4,h5⟩:=h
 by_cases hp:t.proto=6
 ·have hp':(t.proto == 6)=true:=by simpa using hp
  clear h1 hp
  go_enter Tryz.func183,Tryz.ntmps183
  go_wp2_with fail
  go_ret
  exact⟨rfl,rfl⟩
 ·have hp':(t.proto == 6)=false:=by simpa using hp
  have hq':(t.proto == 17)=true:=by have:=h1;simp;omega
  clear h1 hp
  go_enter Tryz.func183,Tryz.ntmps183
  go_wp2_with fail
  go_ret
  exact⟨rfl,rfl⟩
theorem Jw {t:rU} (h:¬ rW t) (w:World):Calls Tryz.prog 183 #[.agg (dH t)] w fun e w'=>e=.returned (.bool false)∧w'=w.alloc (.cells (dH t) 65):=by
 rw [Gz] at h
 have hb:((t.proto == 6)=false∧(t.proto == 17)=false)∨(((t.proto == 6)=true∨((t.proto == 6)=false∧(t.proto == 17)=true))∧(decide (0≤t.ag)=false∨(0≤t.ag∧(decide (t.ag≤65535)=false∨(t.ag≤65535∧(decide (0≤t.ah)=false∨(0≤t.ah∧decide (t.ah≤65535)=false))))))):=by
  simp only [beq_eq_false_iff_ne,beq_iff_eq,decide_eq_false_iff_not];omega
 clear h
 rcases hb with ⟨p1,p2⟩|⟨p,q⟩
 ·go_enter Tryz.func183,Tryz.ntmps183
  go_wp2_with fail
  go_ret
  exact⟨rfl,rfl⟩
 ·rcases p with p | ⟨p,p2⟩ <;> rcases q with q | ⟨q,q2 | ⟨q2,q3 | ⟨q3,q4⟩⟩⟩
  all_goals
   go_enter Tryz.func183,Tryz.ntmps183
   go_wp2_with fail
   go_ret
   exact⟨rfl,rfl⟩
theorem Ej {R:List az} {i:Nat} (hi:i < R.length) {X A:az}:(X::R.set i A)[i+1]?=some A:=by simp [hi]
section
variable {F0:List Nat} {w0 w:World} {R:List az} {bw:Nat} {l:List UInt8}
theorem Pq (h:In F0 w0 w R) (i:Nat) (hA:R[i]?=some (WA bw l)) (hl:l.length≤900000) {t:rU} (ht:Gy t) :
  Calls Tryz.prog 233 #[.pointer (some ⟨bw,0,none⟩),.agg (dH t)] w fun e w'=>e=.returned (.tuple #[])∧In F0 w0 w' (R.set i (WA bw (l++oz t))):=by
 obtain⟨s0,s1,d0,d1,-,-,-,-,-,-⟩:=ht
 have hR:(Cells w.heap.size (dH t) 65::R)[i+1]?=some (WA bw l):=by simpa using hA
 have hi:=(List.getElem?_eq_some_iff.1 hA).1
 have H0:=Lib.hid (h.cells (dH t) 65)
 have HA:=Lib.hid hR
 have C1:Hid (∀ w1,In F0 w0 w1 (Cells w.heap.size (dH t) 65::R)→Calls Tryz.prog 156 #[.pointer (some ⟨bw,0,none⟩),.int .u32 t.src] w1 fun e w'=>e=.returned (.tuple #[])∧In F0 w0 w' (Cells w.heap.size (dH t) 65::R.set i (WA bw (l++be (u64 t.src) 4)))):=
  Lib.hid fun w1 h1=>uJ h1 (i+1) HA.out (by omega) s0 s1
 have C2:Hid (∀ w1,In F0 w0 w1 (Cells w.heap.size (dH t) 65::R.set i (WA bw (l++be (u64 t.src) 4)))→Calls Tryz.prog 156 #[.pointer (some ⟨bw,0,none⟩),.int .u32 t.dst] w1 fun e w'=>e=.returned (.tuple #[])∧In F0 w0 w' (Cells w.heap.size (dH t) 65::R.set i (WA bw (l++be (u64 t.src) 4++be (u64 t.dst) 4)))):=
  Lib.hid fun w1 h1=>by
   have:=uJ (n:=t.dst) h1 (i+1) (Ej hi) (by simp [be,jG];omega) d0 d1
   simpa only [List.set_cons_succ,List.set_set] using this
 have C3:Hid (∀ w1,In F0 w0 w1 (Cells w.heap.size (dH t) 65::R.set i (WA bw (l++be (u64 t.src) 4++be (u64 t.dst) 4)))→Calls Tryz.prog 154 #[.pointer (some ⟨bw,0,none⟩),.int .i64 t.proto] w1 fun e w'=>e=.returned (.tuple #[])∧In F0 w0 w' (Cells w.heap.size (dH t) 65::R.set i (WA bw (l++be (u64 t.src) 4++be (u64 t.dst) 4++be (u64 t.proto) 1)))):=
  Lib.hid fun w1 h1=>by
   have:=LJ h1 (i+1) (Ej hi) (by simp [be,jG];omega) t.proto
   simpa only [List.set_cons_succ,List.set_set] using this
 have C4:Hid (∀ w1,In F0 w0 w1 (Cells w.heap.size (dH t) 65::R.set i (WA bw (l++be (u64 t.src) 4++be (u64 t.dst) 4++be (u64 t.proto) 1)))→Calls Tryz.prog 155 #[.pointer (some ⟨bw,0,none⟩),.int .i64 t.ag] w1 fun e w'=>e=.returned (.tuple #[])∧In F0 w0 w' (Cells w.heap.size (dH t) 65::R.set i (WA bw (l++be (u64 t.src) 4++be (u64 t.dst) 4++be (u64 t.proto) 1++be (u64 t.ag) 2)))):=
  Lib.hid fun w1 h1=>by
   have:=Ad h1 (i+1) (Ej hi) (by simp [be,jG];omega) t.ag
   simpa only [List.set_cons_succ,List.set_set] using this
 have C5:Hid (∀ w1,In F0 w0 w1 (Cells w.heap.size (dH t) 65::R.set i (WA bw (l++be (u64 t.src) 4++be (u64 t.dst) 4++be (u64 t.proto) 1++be (u64 t.ag) 2)))→Calls Tryz.prog 155 #[.pointer (some ⟨bw,0,none⟩),.int .i64 t.ah] w1 fun e w'=>e=.returned (.tuple #[])∧In F0 w0 w' (R.set i (WA bw (l++oz t)))):=
  Lib.hid fun w1 h1=>by
   have:=Ad h1 (i+1) (Ej hi) (by simp [be,jG];omega) t.ah
   refine this.mono fun e w' ⟨he,ho⟩=>⟨he,?_⟩
   rw [List.set_cons_succ,List.set_set] at ho
   have h2:=ho.drop
   unfold oz
   simpa only [List.append_assoc] using h2
 clear h hA hR hl hi s0 s1 d0 d1
 go_enter Tryz.func233,Tryz.ntmps233
 go_wp2_with fail
 refine (C1.out _ H0.out).mono ?_
 rintro e w1 ⟨rfl,ho⟩
 have f1:w1.cell? ⟨w.heap.size,1,none⟩=some (.int .u32 t.dst):=cell_of (ho.block 0 rfl) rfl
 have H1:=Lib.hid ho
 clear ho C1 H0
 go_wp2_with fail
 refine (C2.out _ H1.out).mono ?_
 rintro e w2 ⟨rfl,ho⟩
 have f2:w2.cell? ⟨w.heap.size,2,none⟩=some (.int .i64 t.proto):=cell_of (ho.block 0 rfl) rfl
 have H2:=Lib.hid ho
 clear ho C2 H1 f1
 go_wp2_with fail
 refine (C3.out _ H2.out).mono ?_
 rintro e w3 ⟨rfl,ho⟩
 have f3:w3.cell? ⟨w.heap.size,3,none⟩=some (.int .i64 t.ag):=cell_of (ho.block 0 rfl) rfl
 have H3:=Lib.hid ho
 clear ho C3 H2 f2
 go_wp2_with fail
 refine (C4.out _ H3.out).mono ?_
 rintro e w4 ⟨rfl,ho⟩
 have f4:w4.cell? ⟨w.heap.size,4,none⟩=some (.int .i64 t.ah):=cell_of (ho.block 0 rfl) rfl
 have H4:=Lib.hid ho
 clear ho C4 H3 f3
 go_wp2_with fail
 refine (C5.out _ H4.out).mono ?_
 rintro e w5 ⟨rfl,ho⟩
 have H5:=Lib.hid ho
 clear ho C5 H4 f4
 go_wp2_with fail
 go_end0
 exact⟨rfl,H5.out⟩
end
def qO (c:Nat):Nat:=if c % 2=1 then (c / 2) ^^^ 0x82f63b78 else c / 2
def crcBits:Nat→Nat→Nat
 | 0,c=>c
 | n+1,c=>crcBits n (qO c)
def El (c:Nat) (x:UInt8):Nat:=crcBits 8 (c ^^^ x.toNat)
def jP (c:Nat) (b:List UInt8):Nat:=b.foldl El c
def crc (b:List UInt8):Nat:=(jP 0xffffffff b) ^^^ 0xffffffff
theorem vS {a b:Nat} (ha:a < 4294967296) (hb:b < 4294967296):a ^^^ b < 4294967296:=
 Nat.xor_lt_two_pow (n:=32) ha hb
theorem MZ {c:Nat} (h:c < 4294967296):qO c < 4294967296:=by
 unfold qO;split
 ·exact vS (by omega) (by omega)
 ·omega
theorem uN:∀ (n:Nat) {c:Nat},c < 4294967296→crcBits n c < 4294967296
 | 0,_,h=>h
 | n+1,_,h=>uN n (MZ h)
theorem Jy {c:Nat} (h:c < 4294967296) (x:UInt8):El c x < 4294967296:=
 uN 8 (vS h (by have:=x.toNat_lt;omega))
theorem qP:∀ (b:List UInt8) {c:Nat},c < 4294967296→jP c b < 4294967296
 | [],_,h=>h
 | x::r,_,h=>qP r (Jy h x)
theorem xD (b:List UInt8):crc b < 4294967296:=vS (qP b (by omega)) (by omega)
theorem vT:∀ (n c:Nat),crcBits (n+1) c=qO (crcBits n c)
 | 0,_=>rfl
 | n+1,c=>vT n (qO c)
theorem Em (c:Nat) (b:List UInt8) (x:UInt8):jP c (b++[x])=El (jP c b) x:=by simp [jP]
def num (b:List UInt8):Nat:=b.foldl (fun n x=>n * 256+x.toNat) 0
theorem GH (b:List UInt8) (x:UInt8):num (b++[x])=num b * 256+x.toNat:=by simp [num]
theorem xE:∀ (b:List UInt8),num b < 256 ^ b.length:=by
 intro b
 suffices h:∀ (l:List UInt8) (a:Nat),l.foldl (fun n x=>n * 256+x.toNat) a < (a+1) * 256 ^ l.length by
  have:=h b 0;simpa [num] using this
 intro l
 induction l with
 | nil=>intro a;simp
 | cons x r ih=>
  intro a
  have:=ih (a * 256+x.toNat)
  have hx:=x.toNat_lt
  rw [List.foldl_cons,List.length_cons,Nat.pow_succ]
  refine Nat.lt_of_lt_of_le this ?_
  rw [Nat.mul_comm (256 ^ r.length),← Nat.mul_assoc]
  exact Nat.mul_le_mul_right _ (by omega)
theorem GI (n width:Nat):∀ i,i≤width→num (vQ n width i)=n / 256 ^ (width - i) % 256 ^ i
 | 0,_=>by simp [vQ,num,Nat.mod_one]
 | i+1,h=>by
  rw [CG,GH,GI n width i (by omega)]
  have e1:width - i=(width - 1 - i)+1:=by omega
  have e2:width - (i+1)=width - 1 - i:=by omega
  rw [e2,e1,Nat.pow_succ,← Nat.div_div_eq_div_mul]
  generalize n / 256 ^ (width - 1 - i)=m
  rw [Nat.pow_succ,Nat.mul_comm (256 ^ i),Nat.mod_mul,show (UInt8.ofNat m).toNat=m % 256 by simp]
  omega
theorem qQ {n width:Nat} (h:n < 256 ^ width):num (be n width)=n:=by
 unfold be
 rw [GI n width width (Nat.le_refl _)]
 simp [Nat.mod_eq_of_lt h]
theorem aZ (n width:Nat):(be n width).length=width:=jG _ _ _
structure cB where
 kind:Nat
 aj:Nat
 body:List UInt8
deriving DecidableEq,Inhabited
def mark:List UInt8:=[103,111,105,116]
def jH (k v n:Nat):List UInt8:=mark++be k 1++be v 1++be n 2
def ak (f:cB):List UInt8:=jH f.kind f.aj f.body.length++be (crc (jH f.kind f.aj f.body.length)) 4++be (crc f.body) 4++f.body
structure jI (f:cB):Prop where
 kind:f.kind < 256
 aj:f.aj < 256
 body:f.body.length≤4096
theorem pz (k v n:Nat):(jH k v n).length=8:=by simp [jH,mark,aZ]
theorem dD (f:cB):(ak f).length=16+f.body.length:=by simp [ak,pz,aZ];omega
def jc:cB:=⟨0,0,[]⟩
def bf (b:List UInt8):cB×Nat×Int:=
 if b.length < 16 then (jc,0,2)
 else if b.take 4≠mark then (jc,0,3)
 else if num ((b.drop 8).take 4)≠crc (b.take 8) then (jc,0,5)
 else if 4096 < num ((b.drop 6).take 2) then (jc,0,4)
 else if b.length - 16 < num ((b.drop 6).take 2) then (jc,0,2)
 else if num ((b.drop 12).take 4)≠crc ((b.drop 16).take (num ((b.drop 6).take 2))) then (jc,0,5)
 else (⟨num ((b.drop 4).take 1),num ((b.drop 5).take 1),(b.drop 16).take (num ((b.drop 6).take 2))⟩,16+num ((b.drop 6).take 2),0)
def frScanN:Nat→List UInt8→List cB×Nat×Int
 | 0,_=>([],0,0)
 | n+1,b=>if b=[] then ([],0,0) else
  if (bf b).2.2=0 then
   ((bf b).1::(frScanN n (b.drop (bf b).2.1)).1,(bf b).2.1+(frScanN n (b.drop (bf b).2.1)).2.1,(frScanN n (b.drop (bf b).2.1)).2.2)
  else ([],0,(bf b).2.2)
def bO (b:List UInt8):List cB×Nat×Int:=frScanN b.length b
theorem nH {b:List UInt8} (h:(bf b).2.2=0):16≤(bf b).2.1∧(bf b).2.1≤b.length∧(bf b).2.1=16+(bf b).1.body.length∧jI (bf b).1:=by
 unfold bf at h ⊢
 repeat' split at h
 all_goals first | (simp at h;done) | skip
 rename_i h1 h2 h3 h4 h5 h6
 rw [if_neg h1,if_neg h2,if_neg h3,if_neg h4,if_neg h5,if_neg h6]
 have hl:((b.drop 16).take (num ((b.drop 6).take 2))).length=num ((b.drop 6).take 2):=by rw [List.length_take,List.length_drop];omega
 refine⟨by simp,by simp;omega,by simp only [hl],⟨?_,?_,by simp only [hl];omega⟩⟩
 ·have:=xE ((b.drop 4).take 1)
  have h7:((b.drop 4).take 1).length=1:=by rw [List.length_take,List.length_drop];omega
  rw [h7] at this;simpa using this
 ·have:=xE ((b.drop 5).take 1)
  have h7:((b.drop 5).take 1).length=1:=by rw [List.length_take,List.length_drop];omega
  rw [h7] at this;simpa using this
theorem lC:∀ (n m:Nat) (b:List UInt8),b.length≤n→b.length≤m→frScanN n b=frScanN m b
 | 0,0,_,_,_=>rfl
 | 0,m+1,b,h,_=>by
  obtain rfl:b=[]:=List.length_eq_zero_iff.1 (by omega)
  simp [frScanN]
 | n+1,0,b,_,h=>by
  obtain rfl:b=[]:=List.length_eq_zero_iff.1 (by omega)
  simp [frScanN]
 | n+1,m+1,b,h1,h2=>by
  unfold frScanN
  by_cases hb:b=[]
  ·simp [hb]
  ·rw [if_neg hb,if_neg hb]
   by_cases h0:(bf b).2.2=0
   ·obtain⟨k1,k2,_⟩:=nH h0
    rw [if_pos h0,if_pos h0,lC n m _ (by rw [List.length_drop];omega) (by rw [List.length_drop];omega)]
   ·rw [if_neg h0,if_neg h0]
theorem qR:bO []=([],0,0):=rfl
theorem oJ {b:List UInt8} (h:(bf b).2.2=0):bO b=((bf b).1::(bO (b.drop (bf b).2.1)).1,(bf b).2.1+(bO (b.drop (bf b).2.1)).2.1,(bO (b.drop (bf b).2.1)).2.2):=by
 obtain⟨k1,k2,_⟩:=nH h
 have hb:b≠[]:=by intro e;subst e;simp only [List.length_nil] at k2;omega
 have e:bO b=frScanN (b.length - 1+1) b:=lC _ _ _ (Nat.le_refl _) (by omega)
 have e2:bO (b.drop (bf b).2.1)=frScanN (b.length - 1) (b.drop (bf b).2.1):=lC _ _ _ (Nat.le_refl _) (by rw [List.length_drop];omega)
 rw [e,e2]
 conv=>lhs;unfold frScanN
 rw [if_neg hb,if_pos h]
theorem uO {b:List UInt8} (hb:b≠[]) (h:(bf b).2.2≠0):bO b=([],0,(bf b).2.2):=by
 have hl:0 < b.length:=List.length_pos_iff.2 hb
 have e:bO b=frScanN (b.length - 1+1) b:=lC _ _ _ (Nat.le_refl _) (by omega)
 rw [e];unfold frScanN
 rw [if_neg hb,if_neg h]
theorem nC {f:cB} (h:jI f) (r:List UInt8):bf (ak f++r)=(f,(ak f).length,0):=by
 have hn:f.body.length < 256 ^ 2:=by have:=h.body;omega
 have l8:=pz f.kind f.aj f.body.length
 have t4:(ak f++r).take 4=mark:=by simp [ak,jH,mark]
 have t8:(ak f++r).take 8=jH f.kind f.aj f.body.length:=by
  unfold ak;simp only [List.append_assoc];rw [List.take_left' l8]
 have d8:((ak f++r).drop 8).take 4=be (crc (jH f.kind f.aj f.body.length)) 4:=by
  unfold ak;simp only [List.append_assoc];rw [List.drop_left' l8,List.take_left' (aZ _ _)]
 have d12:((ak f++r).drop 12).take 4=be (crc f.body) 4:=by
  unfold ak;simp only [List.append_assoc]
  rw [show (12:Nat)=8+4 from rfl,← List.drop_drop,List.drop_left' l8,List.drop_left' (aZ _ _),List.take_left' (aZ _ _)]
 have d16:(ak f++r).drop 16=f.body++r:=by
  unfold ak;simp only [List.append_assoc]
  rw [show (16:Nat)=8+(4+4) from rfl,← List.drop_drop,← List.drop_drop,List.drop_left' l8,List.drop_left' (aZ _ _),List.drop_left' (aZ _ _)]
 have d4:((ak f++r).drop 4).take 1=be f.kind 1:=by
  unfold ak jH;simp only [List.append_assoc];rw [List.drop_left' (by rfl),List.take_left' (aZ _ _)]
 have d5:((ak f++r).drop 5).take 1=be f.aj 1:=by
  unfold ak jH;simp only [List.append_assoc]
  rw [show (5:Nat)=4+1 from rfl,← List.drop_drop,List.drop_left' (by rfl),List.drop_left' (aZ _ _),List.take_left' (aZ _ _)]
 have d6:((ak f++r).drop 6).take 2=be f.body.length 2:=by
  unfold ak jH;simp only [List.append_assoc]
  rw [show (6:Nat)=4+(1+1) from rfl,← List.drop_drop,← List.drop_drop,List.drop_left' (by rfl),List.drop_left' (aZ _ _),List.drop_left' (aZ _ _),List.take_left' (aZ _ _)]
 have hlen:(ak f++r).length=16+f.body.length+r.length:=by rw [List.length_append,dD]
 unfold bf
 rw [t4,t8,d8,d12,d16,d4,d5,d6,qQ hn,qQ (width:=4) (xD _),qQ (width:=4) (xD _),hlen,dD]
 rw [qQ (width:=1) (by have:=h.kind;omega),qQ (width:=1) (by have:=h.aj;omega),List.take_left' rfl]
 have:=h.body
 rw [if_neg (by omega),if_neg (by simp),if_neg (by simp),if_neg (by omega),if_neg (by omega),if_neg (by simp)]
theorem vU {f:cB} (h:jI f) {b:List UInt8} (hb:b <+: ak f) (hl:b.length < (ak f).length):(bf b).2.2=2:=by
 obtain⟨r,hr⟩:=hb
 by_cases h16:b.length < 16
 ·unfold bf;rw [if_pos h16]
 ·have hn:f.body.length < 256 ^ 2:=by have:=h.body;omega
  have key:=nC h []
  rw [List.append_nil,← hr] at key
  have l:=dD f
  rw [← hr,List.length_append] at l
  rw [dD] at hl
  unfold bf at key ⊢
  have t4:(b++r).take 4=b.take 4:=by rw [List.take_append_of_le_length (by omega)]
  have t8:(b++r).take 8=b.take 8:=by rw [List.take_append_of_le_length (by omega)]
  have e:∀ i k,i+k≤16→((b++r).drop i).take k=(b.drop i).take k:=fun i k hik=>by
   rw [List.drop_append_of_le_length (by omega),List.take_append_of_le_length (by rw [List.length_drop];omega)]
  rw [t4,t8,e 8 4 (by omega),e 6 2 (by omega),e 12 4 (by omega),e 4 1 (by omega),e 5 1 (by omega)] at key
  repeat' split at key
  all_goals first | (simp at key;done) | skip
  rename_i h1 h2 h3 h4 h5 h6
  rw [if_neg h16,if_neg h2,if_neg h3,if_neg h4]
  have hk:=congrArg (fun x=>x.2.1) key
  simp only [List.length_append] at hk
  rw [if_pos (by omega)]
def aN (l:List cB):List UInt8:=(l.map ak).flatten
theorem kR (f:cB) (l:List cB):aN (f::l)=ak f++aN l:=rfl
theorem jo (l l':List cB):aN (l++l')=aN l++aN l':=by simp [aN]
theorem GJ {l:List cB} (h:∀ f∈l,jI f) (r:List UInt8):bO (aN l++r)=(l++(bO r).1,(aN l).length+(bO r).2.1,(bO r).2.2):=by
 induction l with
 | nil=>simp [aN]
 | cons f l ih=>
  have hf:=h f (by simp)
  have e:=nC hf (aN l++r)
  rw [kR,List.append_assoc,oJ (by rw [e]),e]
  simp only [List.drop_left]
  rw [ih (fun g hg=>h g (List.mem_cons_of_mem _ hg))]
  simp [Nat.add_assoc]
theorem uP {l:List cB} (h:∀ f∈l,jI f):bO (aN l)=(l,(aN l).length,0):=by
 have:=GJ h []
 simpa [qR] using this
theorem Jz {l:List cB} (h:∀ f∈l,jI f) {b:List UInt8} (hb:b <+: aN l) :
  ∃ k≤l.length,(bO b).1=l.take k∧(bO b).2.1=(aN (l.take k)).length∧aN (l.take k) <+: b∧(∀ j≤l.length,(aN (l.take j)).length≤b.length→j≤k):=by
 induction l generalizing b with
 | nil=>
  have:b=[]:=List.prefix_nil.1 hb
  subst this
  exact⟨0,Nat.le_refl _,rfl,rfl,List.nil_prefix,fun j hj _=>hj⟩
 | cons f l ih=>
  have hf:=h f (by simp)
  rw [kR] at hb
  by_cases hl:b.length < (ak f).length
  ·have hp:b <+: ak f:=List.prefix_of_prefix_length_le hb (List.prefix_append _ _) (by omega)
   refine⟨0,Nat.zero_le _,?_,?_,List.nil_prefix,fun j hj hjl=>?_⟩
   ·by_cases hn:b=[]
    ·rw [hn,qR];rfl
    ·rw [uO hn (by rw [vU hf hp hl];decide)];rfl
   ·by_cases hn:b=[]
    ·rw [hn,qR];rfl
    ·rw [uO hn (by rw [vU hf hp hl];decide)];rfl
   ·rcases j with _ | j
    ·exact Nat.le_refl _
    ·rw [List.take_succ_cons,kR,List.length_append] at hjl;omega
  ·have hp:ak f <+: b:=List.prefix_of_prefix_length_le (List.prefix_append _ _) hb (by omega)
   obtain⟨b',rfl⟩:=hp
   have hb':b' <+: aN l:=(List.prefix_append_right_inj _).1 hb
   obtain⟨k,k0,k1,k2,k3,k4⟩:=ih (fun g hg=>h g (List.mem_cons_of_mem _ hg)) hb'
   have e:=nC hf b'
   refine⟨k+1,by simp;omega,?_,?_,?_,fun j hj hjl=>?_⟩
   ·rw [oJ (by rw [e]),e];simp only [List.drop_left];rw [k1];rfl
   ·rw [oJ (by rw [e]),e];simp only [List.drop_left];rw [k2,List.take_succ_cons,kR,List.length_append]
   ·rw [List.take_succ_cons,kR];exact (List.prefix_append_right_inj _).2 k3
   ·rcases j with _ | j
    ·omega
    ·rw [List.take_succ_cons,kR,List.length_append,List.length_append] at hjl
     have:=k4 j (by simpa using hj) (by omega)
     omega
def gq (kind aj:Int) (n:Nat):Int:=if kind < 0∨255 < kind∨aj < 0∨255 < aj then 1 else if 4096 < n then 4 else 0
def xG (kind aj:Int) (body:List UInt8):List UInt8:=if gq kind aj body.length=0 then ak ⟨kind.toNat,aj.toNat,body⟩ else []
end Go.Proofs.YtogclkhpbjfadaaGreat
