/- Rows.LogSizesCardSaid -/
import Derived.Test.YtaopfagclnocdaaGreatDoorLS17
import Derived.Test.YtaopfagclnocdaaGreatDoorLS18
import Derived.Test.YtaopfagclnocdaaGreatDoorLS15
import Derived.Test.YtaopfagclnocdaaGreatDoorLS4
import Derived.Test.YtaopfagclnocdaaGreatDoorLS2
import Derived.Deep.MidRow
import Derived.Laws.Rows
import Derived.Test.YtaopfagclnocdaaGreatDoorLS5
import Derived.BigQuiet
import Derived.Deep.DeepCutAuto
import Derived.Deep.RegionHeld3
import Derived.Deep.QuietTactic
namespace Go.Proofs.YtaopfagclnocdaaGreatDoor
open Go.RowKit
set_option linter.unusedVariables false
set_option maxHeartbeats 64000000
set_option maxRecDepth 100000
section
variable {F0:List Nat} {w0 w:World} {R:List Asrt} {bd lb:Nat} {d:DiskD} {l:LogD}
theorem o_lgsegs (hl:LgOk l) (h:In F0 w0 w (LgA lb bd l::R)):Calls Tryz.prog 10 #[dptr lb] w fun e w'=>∃ a c,e=.returned (.slice a l.m.segs.length c)∧In F0 w0 w' (IntsR (.slice a l.m.segs.length c) l.m.segs::LgA lb bd l::R):=by
 obtain⟨a,c,h1⟩:=h.lgOpen
 have c4:w.cell? ⟨lb,4,none⟩=some (.slice a l.m.segs.length c):=cell_of (h1.block 1 rfl) rfl
 obtain⟨F1,r1⟩:=h1.get 0 rfl
 have hn:=(mayM_iff.1 hl.2.2).1.2.2.2.1
 have K:=Lib.hid (o_iclone h (fun e=>RowA.noc r1 e) r1.all (by omega))
 clear h h1 r1
 go_enter Tryz.func10,Tryz.ntmps10
 go_wp2_with fail
 refine K.out.mono ?_
 rintro e w1 ⟨a',c',rfl,g⟩
 have G:=Lib.hid g
 clear g K c4
 go_wp2_with fail
 go_ret
 exact⟨_,_,rfl,G.out⟩
def SizeRelL (lb bd:Nat) (l:LogD) (d:DiskD) (a:Option Addr) (c:Nat) (F0:List Nat) (w0:World) (R:List Asrt) (n i:Value) (wr:World):Prop:=
 ∃ k:Nat,k≤l.m.segs.length∧i=.int .i64 k∧n=.int .i64 (((l.m.segs.take k).map (fun x=>bytesD d (segName x))).sum:Nat)∧In F0 w0 wr (LgA lb bd l::DkA bd d::IntsR (.slice a l.m.segs.length c) l.m.segs::R)
end
theorem frsA_shape {v:Value} {fs:List FrD} {w:World} {F:List Nat} (h:FrsA v fs w F):∃ a c,v=.slice a fs.length c:=by
 obtain⟨vs,hl,F1,F2,h1,_⟩:=h
 obtain⟨a,c,e,-,-,-⟩:=h1.shape
 exact⟨a,c,e⟩
theorem frArg_at {W w:World} {R:List Asrt} {a:Option Addr} {n n' c:Nat} {fs:List FrD} {vs:List Value} {F:List Nat} (ho:Own W w R) (h:RowA 35 3 (.slice a n c) n' (flatFr fs vs) w F) (hl:vs.length=fs.length) (hb:∀ (j:Nat) (f:FrD) (v:Value),fs[j]?=some f→vs[j]?=some v→AB W v f.body):FrAt w a fs:=by
 intro k f hf
 obtain⟨v,hv⟩:∃ v,vs[k]?=some v:=⟨vs[k]'(by have:=(List.getElem?_eq_some_iff.1 hf).1;omega),List.getElem?_eq_getElem _⟩
 obtain⟨A,cc,rfl,hs,_,_⟩:=(hb k f v hf hv).ex
 obtain⟨e0,e1,e2⟩:=flatFr_at hl hf hv
 obtain⟨g,rfl,c0⟩:=h.at.2 _ _ e0
 obtain⟨g',hg',c1⟩:=h.at.2 _ _ e1
 cases hg'
 obtain⟨g',hg',c2⟩:=h.at.2 _ _ e2
 cases hg'
 have hs':=hs.old ho
 exact⟨g,0,A,cc,rfl,by simpa using c0,by simpa using c1,by simpa using c2,hs',src_none hs'⟩
theorem rcrc_call {w:World} {A:Option Addr} {bs:List UInt8} {c:Nat} (h:Src w A bs.length 1 (u8s bs)) (hl:bs.length≤100000000) :
  Calls Tryz.prog 118 #[.slice A bs.length c] w fun e w'=>e=.returned (.int .u32 (crc bs))∧w'=w:=by
 have H:=Lib.hid h
 clear h
 go_enter Tryz.func118,Tryz.ntmps118
 go_wp2_with fail
 go_loop [3,8] (CrcRel bs) (fun _ k=>bs.length - (intOf k).toNat)
 case atStart=>exact⟨0,Nat.zero_le _,rfl,rfl⟩
 case round=>
  obtain⟨i,hi,rfl,rfl⟩:=hrel
  have hc32:=crcFrom_lt (bs.take i) (c:=0xffffffff) (by omega)
  by_cases hlt:i < bs.length
  ·obtain⟨x,hx⟩:∃ x,bs[i]?=some x:=⟨bs[i],List.getElem?_eq_getElem hlt⟩
   obtain⟨ad,rfl,hc⟩:=H.out.at' (by omega)
   have c0:=hc i (.int .u8 x.toNat) (by simp [u8s,hx])
   have hlt':(i:Int) < (bs.length:Int):=by omega
   have HX:Hid (crcFrom 0xffffffff (bs.take (i+1))=crcBits 8 (crcFrom 0xffffffff (bs.take i) ^^^ x.toNat)):=Lib.hid (by
    rw [List.take_add_one,hx];exact crcFrom_snoc _ _ _)
   have hq:=bits_xor_u32 _ x.toNat hc32 (by have:=x.toNat_lt;omega)
   have hb:crcFrom 0xffffffff (bs.take i) ^^^ x.toNat < 4294967296:=xor_lt32 hc32 (by have:=x.toNat_lt;omega)
   have hxl:=x.toNat_lt
   clear hx hc
   generalize crcFrom 0xffffffff (bs.take i)=c0' at *
   generalize (x.toNat)=xn at *
   go_wp2_with fail
   go_loop [3,16] (BitRel (c0' ^^^ xn)) (fun _ k=>8 - (intOf k).toNat)
   case atStart=>exact⟨0,by omega,rfl,by simp [crcBits]⟩
   case round=>
    obtain⟨j,hj,rfl,rfl⟩:=hrel
    have hcb:=crcBits_lt j hb
    have HS:=Lib.hid (crcBits_succ j (c0' ^^^ xn))
    clear hq
    by_cases hjl:j < 8
    ·have q1:=and_one hcb
     have q2:=xor_poly hcb
     generalize crcBits j (c0' ^^^ xn)=cj at *
     have hjl':(j:Int) < 8:=by omega
     by_cases h2:cj % 2=1
     ·have HB:Hid (crcBit cj=(cj / 2) ^^^ 0x82f63b78):=Lib.hid (by rw [crcBit,if_pos h2])
      have q3:(((cj % 2:Nat):Int) == 1)=true:=by rw [h2];rfl
      clear h2
      go_wp2_with fail
      go_round
      case rel=>exact⟨j+1,by omega,by go_num,by rw [HS.out,HB.out]⟩
      case measure=>simp [intOf];omega
     ·have HB:Hid (crcBit cj=cj / 2):=Lib.hid (by rw [crcBit,if_neg h2])
      have q3:(((cj % 2:Nat):Int) == 1)=false:=by rw [beq_eq_false_iff_ne];omega
      clear h2
      go_wp2_with fail
      go_round
      case rel=>exact⟨j+1,by omega,by go_num,by rw [HS.out,HB.out];simp⟩
      case measure=>simp [intOf];omega
    ·obtain rfl:j=8:=by omega
     go_wp2_with fail
     go_round
     case rel=>exact⟨i+1,by omega,by go_num,by rw [HX.out]⟩
     case measure=>simp [intOf];omega
  ·have hil:i=bs.length:=by omega
   subst hil
   have hq:=bits_xor_u32 4294967295 (crcFrom 0xffffffff (bs.take bs.length)) (by omega) hc32
   have HE:Hid (crc bs=crcFrom 0xffffffff (bs.take bs.length) ^^^ 4294967295):=Lib.hid (by rw [List.take_length];rfl)
   have hb:=crcFrom_lt (bs.take bs.length) (c:=0xffffffff) (by omega)
   generalize crcFrom 0xffffffff (bs.take bs.length)=cc at *
   go_wp2_with fail
   go_ret
   refine⟨?_,rfl⟩
   rw [HE.out]
   show Ending.returned (.int .u32 (bits .xor .u32 IntKind.u32.max (cc:Int)))=_
   rw [show IntKind.u32.max=((4294967295:Nat):Int) by rfl,hq,Nat.xor_comm]
def setL:Nat→List Value→Array Value→Array Value
 | _,[],C=>C
 | o,x::xs,C=>setL (o+1) xs (C.setIfInBounds o x)
theorem setL_toList:∀ (xs:List Value) (o:Nat) (C:Array Value),o+xs.length≤C.size→(setL o xs C).toList=C.toList.take o++(xs++C.toList.drop (o+xs.length))
 | [],o,C,h=>by simp [setL]
 | x::xs,o,C,h=>by
  simp only [List.length_cons] at h
  have h1:=setL_toList xs (o+1) (C.setIfInBounds o x) (by simp;omega)
  show (setL (o+1) xs (C.setIfInBounds o x)).toList=_
  rw [h1,Array.toList_setIfInBounds]
  have e1:(C.toList.set o x).take (o+1)=C.toList.take o++[x]:=by
   rw [List.take_add_one,List.take_set_of_le (Nat.le_refl _),List.getElem?_set_self (by simp;omega)];rfl
  have e2:(C.toList.set o x).drop (o+1+xs.length)=C.toList.drop (o+1+xs.length):=List.drop_set_of_lt (by omega)
  rw [e1,e2,List.append_assoc]
  simp only [List.length_cons,List.cons_append,List.nil_append]
  rw [show o+1+xs.length=o+(xs.length+1) by omega]
theorem setL_full {xs:List Value} {C:Array Value} (h:xs.length=C.size):setL 0 xs C=xs.toArray:=by
 apply Array.toList_inj.1
 rw [setL_toList xs 0 C (by omega)]
 simp [h]
theorem In.setCs {F0:List Nat} {w0:World} {b:Nat} {T:TypeId}:∀ (xs:List Value) (o:Nat) {w:World} {R:List Asrt} {C:Array Value} (i:Nat),In F0 w0 w R→R[i]?=some (Cells b C T)→In F0 w0 (w.setCells b o xs) (R.set i (Cells b (setL o xs C) T))
 | [],o,w,R,C,i,h,hA=>by
  have:R.set i (Cells b C T)=R:=set_same hA
  show In F0 w0 w (R.set i (Cells b C T))
  rw [this];exact h
 | x::xs,o,w,R,C,i,h,hA=>by
  have h1:=h.put i hA o x
  have hi:i < R.length:=(List.getElem?_eq_some_iff.1 hA).1
  have h2:=In.setCs (b:=b) (T:=T) xs (o+1) (C:=C.setIfInBounds o x) i h1 (by simp [hi])
  rw [List.set_set] at h2
  exact h2
theorem In.setFull {F0:List Nat} {w0 w:World} {R:List Asrt} {b:Nat} {T:TypeId} {C:Array Value} (h:In F0 w0 w R) (i:Nat) (hA:R[i]?=some (Cells b C T)) {xs:List Value} (hl:xs.length=C.size):In F0 w0 (w.setCells b 0 xs) (R.set i (Cells b xs.toArray T)):=by
 have h1:=In.setCs xs 0 i h hA
 rwa [setL_full hl] at h1
theorem or_add (a b k:Nat) (hb:b < 2 ^ k):(a * 2 ^ k) ||| b=a * 2 ^ k+b:=by
 rw [Nat.mul_comm];exact (Nat.two_pow_add_eq_or_of_lt hb a).symm
theorem bits_or_u32 (a b:Nat) (ha:a < 4294967296) (hb:b < 4294967296):bits .or .u32 (a:Int) (b:Int)=((a ||| b:Nat):Int):=by
 have hx:a ||| b < 2 ^ 32:=Nat.or_lt_two_pow (by omega) (by omega)
 have h1:(BitVec.ofInt 32 (a:Int)).toNat=a:=by
  rw [BitVec.ofInt_natCast,BitVec.toNat_ofNat];exact Nat.mod_eq_of_lt (by omega)
 have h2:(BitVec.ofInt 32 (b:Int)).toNat=b:=by
  rw [BitVec.ofInt_natCast,BitVec.toNat_ofNat];exact Nat.mod_eq_of_lt (by omega)
 show IntKind.u32.wrap ((BitVec.ofInt 32 (a:Int) ||| BitVec.ofInt 32 (b:Int)).toNat:Int)=_
 rw [BitVec.toNat_or,h1,h2]
 rw [show ∀ n,IntKind.u32.wrap n=n % 4294967296 from fun n=>by simp [IntKind.wrap,IntKind.bits,IntKind.signed]]
 omega
theorem bits_or_i64 (a b:Nat) (ha:a < 4294967296) (hb:b < 4294967296):bits .or .i64 (a:Int) (b:Int)=((a ||| b:Nat):Int):=by
 have hx:a ||| b < 2 ^ 32:=Nat.or_lt_two_pow (by omega) (by omega)
 have h1:(BitVec.ofInt 64 (a:Int)).toNat=a:=by
  rw [BitVec.ofInt_natCast,BitVec.toNat_ofNat];exact Nat.mod_eq_of_lt (by omega)
 have h2:(BitVec.ofInt 64 (b:Int)).toNat=b:=by
  rw [BitVec.ofInt_natCast,BitVec.toNat_ofNat];exact Nat.mod_eq_of_lt (by omega)
 show IntKind.i64.wrap ((BitVec.ofInt 64 (a:Int) ||| BitVec.ofInt 64 (b:Int)).toNat:Int)=_
 rw [BitVec.toNat_or,h1,h2]
 exact IntWalk.i64_in _ (by omega)
theorem or_two {x0 x1:Nat} (h0:x0 < 256) (h1:x1 < 256):bits .or .i64 ((x0:Int) * 256) (x1:Int)=((x0 * 256+x1:Nat):Int):=by
 have e:((x0:Int) * 256)=((x0 * 256:Nat):Int):=by omega
 rw [e,bits_or_i64 _ _ (by omega) (by omega),show x0 * 256=x0 * 2 ^ 8 by omega,or_add x0 x1 8 (by omega)]
theorem or_four {x0 x1 x2 x3:Nat} (h0:x0 < 256) (h1:x1 < 256) (h2:x2 < 256) (h3:x3 < 256) :
  bits .or .u32 (bits .or .u32 (bits .or .u32 ((x0:Int) * 16777216) ((x1:Int) * 65536)) ((x2:Int) * 256)) (x3:Int)=((x0 * 16777216+x1 * 65536+x2 * 256+x3:Nat):Int):=by
 have e0:((x0:Int) * 16777216)=((x0 * 16777216:Nat):Int):=by omega
 have e1:((x1:Int) * 65536)=((x1 * 65536:Nat):Int):=by omega
 have e2:((x2:Int) * 256)=((x2 * 256:Nat):Int):=by omega
 rw [e0,e1,e2,bits_or_u32 _ _ (by omega) (by omega)]
 rw [show x0 * 16777216=x0 * 2 ^ 24 by omega,or_add x0 (x1 * 65536) 24 (by omega)]
 rw [bits_or_u32 _ _ (by omega) (by omega)]
 rw [show x0 * 2 ^ 24+x1 * 65536=(x0 * 256+x1) * 2 ^ 16 by omega,or_add _ (x2 * 256) 16 (by omega)]
 rw [bits_or_u32 _ _ (by omega) (by omega)]
 rw [show (x0 * 256+x1) * 2 ^ 16+x2 * 256=(x0 * 65536+x1 * 256+x2) * 2 ^ 8 by omega,or_add _ x3 8 (by omega)]
theorem num_two (x0 x1:UInt8):num [x0,x1]=x0.toNat * 256+x1.toNat:=by simp [num]
theorem num_four (x0 x1 x2 x3:UInt8):num [x0,x1,x2,x3]=x0.toNat * 16777216+x1.toNat * 65536+x2.toNat * 256+x3.toNat:=by simp [num];omega
theorem results_cell_tmp2_row {P:Program} {fn:Func} {p u1 u2:Tmp} {ty:TypeId} (h:fn.results=#[.cell p ty,.tmp u1,.tmp u2]) (tmps:Array Value) (w:World) (g:Nat) (t:TypeId) (cs:Array Value) (fr:Nat×Nat) (d:TypeDesc)
  (hp:tmps.getD p undef=.pointer (some ⟨g,0,none⟩)) (hg:w.heap[g]?=some (.cells cs t fr))
  (hu:P.underlying ty=some d) (hd:(match d with | .struct _ | .array _ _=>true | _=>false)=true) (hi:(P.info? ty).map (·.size)=some cs.size) :
  (results fn tmps).run P w=.ok (.tuple #[.agg cs,tmps.getD u1 undef,tmps.getD u2 undef]) w:=by
 have e:(results fn tmps).run P w=((asAddr (tmps.getD p undef)).run P w).andThen fun a w₁=>((loadVar ty a).run P w₁).andThen fun v w₂=>.ok (.tuple #[v,tmps.getD u1 undef,tmps.getD u2 undef]) w₂:=by
  simp only [results,h]
  simp [Sem.run_bind,Result.andThen]
 rw [e,hp]
 simp [asAddr,run_loadVar_row w g t ty cs fr d hg hu hd hi,Result.andThen]
theorem seg_two {b:List UInt8} {i:Nat} {x0 x1:UInt8} (h0:b[i]?=some x0) (h1:b[i+1]?=some x1):(b.drop i).take 2=[x0,x1]:=by
 have hl:=(List.getElem?_eq_some_iff.1 h1).1
 rw [List.drop_eq_getElem_cons (by omega),List.drop_eq_getElem_cons (by omega)]
 have e0:=(List.getElem?_eq_some_iff.1 h0).2
 have e1:=(List.getElem?_eq_some_iff.1 h1).2
 rw [e0,e1];simp
theorem seg_four {b:List UInt8} {i:Nat} {x0 x1 x2 x3:UInt8} (h0:b[i]?=some x0) (h1:b[i+1]?=some x1) (h2:b[i+2]?=some x2) (h3:b[i+3]?=some x3):(b.drop i).take 4=[x0,x1,x2,x3]:=by
 have hl:=(List.getElem?_eq_some_iff.1 h3).1
 have e0:=(List.getElem?_eq_some_iff.1 h0).2
 have e1:=(List.getElem?_eq_some_iff.1 h1).2
 have e2:=(List.getElem?_eq_some_iff.1 h2).2
 have e3:=(List.getElem?_eq_some_iff.1 h3).2
 rw [List.drop_eq_getElem_cons (by omega),List.drop_eq_getElem_cons (by omega),List.drop_eq_getElem_cons (by omega),List.drop_eq_getElem_cons (by omega)]
 rw [e0,e1,e2,e3];simp
section
variable {F0:List Nat} {w0 w:World} {R:List Asrt}
theorem o_qu32 {g o:Nat} {x0 x1 x2 x3:Nat} (h0:x0 < 256) (h1:x1 < 256) (h2:x2 < 256) (h3:x3 < 256) {n c:Nat} (hn:4≤n) (c0:w.cell? ⟨g,o,none⟩=some (.int .u8 x0)) (c1:w.cell? ⟨g,o+1,none⟩=some (.int .u8 x1)) (c2:w.cell? ⟨g,o+2,none⟩=some (.int .u8 x2)) (c3:w.cell? ⟨g,o+3,none⟩=some (.int .u8 x3)) :
  Calls Tryz.prog 117 #[.slice (some ⟨g,o,none⟩) n c] w fun e w'=>e=.returned (.int .u32 ((x0 * 16777216+x1 * 65536+x2 * 256+x3:Nat):Int))∧∃ k,w'=w.drewN k:=by
 have HO:=Lib.hid (or_four h0 h1 h2 h3)
 go_enter Tryz.func117,Tryz.ntmps117
 go_wp2_with fail
 go_quiet (fail)
 rw [HO.out]
 go_wp2_with fail
 go_ret
 exact⟨rfl,_,rfl⟩
theorem Bytes.cells {A:Option Addr} {c:Nat} {b:List UInt8} (hb:Bytes F0 w0 R A c b) (h0:0 < b.length):∃ g o,A=some ⟨g,o,none⟩∧∀ W,In F0 w0 W R→∀ j x,b[j]?=some x→W.cell? ⟨g,o+j,none⟩=some (.int .u8 x.toNat):=by
 obtain⟨g,o,rfl⟩:∃ g o,A=some ⟨g,o,none⟩:=by
  rcases hb.ad with rfl | h
  ·have:=(hb.nil rfl).2;subst this;simp at h0
  ·exact h
 refine⟨g,o,rfl,fun W hW j x hx=>?_⟩
 obtain⟨ad,e,hc⟩:=(hb.src W hW).at' h0
 cases e
 have:=hc j (.int .u8 x.toNat) (by simp [u8s,hx])
 rwa [add_at] at this
theorem byteAt {g o:Nat} {b:List UInt8} (hc:∀ W,In F0 w0 W R→∀ j x,b[j]?=some x→W.cell? ⟨g,o+j,none⟩=some (.int .u8 x.toNat)) {i:Nat} (hi:i < b.length):∃ (x:UInt8) (y:Nat),b[i]?=some x∧x.toNat=y∧y < 256∧∀ W,In F0 w0 W R→W.cell? ⟨g,o+i,none⟩=some (.int .u8 y):=
 ⟨b[i],b[i].toNat,List.getElem?_eq_getElem hi,rfl,b[i].toNat_lt,fun W hW=>hc W hW i _ (List.getElem?_eq_getElem hi)⟩
theorem seg_one {b:List UInt8} {i:Nat} {x:UInt8} (h:b[i]?=some x):(b.drop i).take 1=[x]:=by
 have hl:=(List.getElem?_eq_some_iff.1 h).1
 rw [List.drop_eq_getElem_cons hl,(List.getElem?_eq_some_iff.1 h).2];simp
theorem num_one (x:UInt8):num [x]=x.toNat:=by simp [num]
theorem run_suf (g o:Nat) (n cap i:Nat) (h1:i≤n) (h2:i < cap) (w:World) :
  (Instr.slice 32 (.slice (some ⟨g,o,none⟩) n cap) (some (.int .i64 i)) none none).run Tryz.prog w=.ok (.slice (some ⟨g,o+i,none⟩) (n - i) (cap - i)) w:=by
 rw [run_suffix Tryz.underlying32 infoByte _ _ _ _ h1]
 unfold sufA
 rw [if_neg (by omega)]
 simp [add_at]
theorem o_qtake (h:In F0 w0 w R) {A:Option Addr} {c:Nat} {b:List UInt8} (hb:Bytes F0 w0 R A c b) (hl:b.length≤100000000) :
  Calls Tryz.prog 53 #[.slice A b.length c] w (TakeFrPost b F0 w0 R):=by
 have hcap:=hb.cap
 have h2:In F0 w0 ((w.alloc (.cells #[.int .i64 0,.int .i64 0,.slice none 0 0] 35)).alloc (.cells #[.int .i64 0,.int .i64 0,.slice none 0 0] 35)) (Cells (w.heap.size+1) #[.int .i64 0,.int .i64 0,.slice none 0 0] 35::Cells w.heap.size #[.int .i64 0,.int .i64 0,.slice none 0 0] 35::R):=by
  have h2:=(h.cells #[.int .i64 0,.int .i64 0,.slice none 0 0] 35).cells #[.int .i64 0,.int .i64 0,.slice none 0 0] 35
  simp only [World.size_alloc] at h2
  exact h2
 obtain⟨w1,hw1⟩:∃ w1,w1=((w.alloc (.cells #[.int .i64 0,.int .i64 0,.slice none 0 0] 35)).alloc (.cells #[.int .i64 0,.int .i64 0,.slice none 0 0] 35)):=⟨_,rfl⟩
 rw [← hw1] at h2
 have HW:=Lib.hid hw1
 have HERR:Hid (∀ (W:World) (e:Int),frTake b=(zeroFr,0,e)→In F0 w0 W R→TakeFrPost b F0 w0 R (.returned (.tuple #[.agg #[.int .i64 0,.int .i64 0,.slice none 0 0],.int .i64 0,.int .i64 e])) W):=Lib.hid fun W e he h'=>⟨_,by rw [he];rfl,by rw [he];exact h'.rownil _ _⟩
 by_cases h16:b.length < 16
 ·have e:frTake b=(zeroFr,0,2):=by unfold frTake;rw [if_pos h16]
  have h16':(b.length:Int) < 16:=by omega
  have H2:=Lib.hid h2
  have HE:=Lib.hid (fun W=>HERR.out W 2 e)
  clear h h2 hb hw1 h16 hl hcap HERR e
  go_enter Tryz.func53,Tryz.ntmps53
  go_upto_region 2 with fail
  rw [← HW.out]
  clear HW
  generalize w.heap.size=g at *
  have e0:w1.cell? ⟨g+1,0,none⟩=some (.int .i64 0):=cell_of (H2.out.block 0 rfl) rfl
  have e1:w1.cell? ⟨g+1,1,none⟩=some (.int .i64 0):=cell_of (H2.out.block 0 rfl) rfl
  have e2:w1.cell? ⟨g+1,2,none⟩=some (.slice none 0 0):=cell_of (H2.out.block 0 rfl) rfl
  have d0:w1.cell? ⟨g,0,none⟩=some (.int .i64 0):=cell_of (H2.out.block 1 rfl) rfl
  have d1:w1.cell? ⟨g,1,none⟩=some (.int .i64 0):=cell_of (H2.out.block 1 rfl) rfl
  have d2:w1.cell? ⟨g,2,none⟩=some (.slice none 0 0):=cell_of (H2.out.block 1 rfl) rfl
  have f0:w1.frozen? ⟨g,0,none⟩=false:=free_of (H2.out.block 1 rfl)
  have f1:w1.frozen? ⟨g,1,none⟩=false:=free_of (H2.out.block 1 rfl)
  have f2:w1.frozen? ⟨g,2,none⟩=false:=free_of (H2.out.block 1 rfl)
  have G5:=Lib.hid (H2.out.setFull 1 rfl (xs:=[.int .i64 0,.int .i64 0,.slice none 0 0]) (b:=g) (C:=#[.int .i64 0,.int .i64 0,.slice none 0 0]) (T:=35) rfl)
  have G6:=Lib.hid (HE.out _ G5.out.drop.drop)
  go_wp2_with fail
  exact bodyPost_ret (results_cell_tmp2_row Tryz.results53 _ _ g 35 _ (0,0) _ rfl (G5.out.block 1 rfl) Tryz.underlying35 rfl (by kernel_rfl)) rfl G6.out
 -- main part
 have hge:16≤b.length:=by omega
 have hge':¬ ((b.length:Int) < 16):=by omega
 obtain⟨ga,o,rfl,hcell⟩:=hb.cells (by omega)
 have HC:=Lib.hid hcell
 have HB:=Lib.hid hb
 obtain⟨x4,y4,b4,v4,l4,k4⟩:=byteAt hcell (i:=4) (by omega)
 obtain⟨x5,y5,b5,v5,l5,k5⟩:=byteAt hcell (i:=5) (by omega)
 obtain⟨x6,y6,b6,v6,l6,k6⟩:=byteAt hcell (i:=6) (by omega)
 obtain⟨x7,y7,b7,v7,l7,k7⟩:=byteAt hcell (i:=7) (by omega)
 obtain⟨x8,y8,b8,v8,l8,k8⟩:=byteAt hcell (i:=8) (by omega)
 obtain⟨x9,y9,b9,v9,l9,k9⟩:=byteAt hcell (i:=9) (by omega)
 obtain⟨x10,y10,b10,v10,l10,k10⟩:=byteAt hcell (i:=10) (by omega)
 obtain⟨x11,y11,b11,v11,l11,k11⟩:=byteAt hcell (i:=11) (by omega)
 obtain⟨x12,y12,b12,v12,l12,k12⟩:=byteAt hcell (i:=12) (by omega)
 obtain⟨x13,y13,b13,v13,l13,k13⟩:=byteAt hcell (i:=13) (by omega)
 obtain⟨x14,y14,b14,v14,l14,k14⟩:=byteAt hcell (i:=14) (by omega)
 obtain⟨x15,y15,b15,v15,l15,k15⟩:=byteAt hcell (i:=15) (by omega)
 obtain⟨nn,hnn⟩:∃ nn,nn=y6 * 256+y7:=⟨_,rfl⟩
 obtain⟨s8,hs8⟩:∃ s8,s8=y8 * 16777216+y9 * 65536+y10 * 256+y11:=⟨_,rfl⟩
 obtain⟨s12,hs12⟩:∃ s12,s12=y12 * 16777216+y13 * 65536+y14 * 256+y15:=⟨_,rfl⟩
 have n4:num ((b.drop 4).take 1)=y4:=by rw [seg_one b4,num_one,v4]
 have n5:num ((b.drop 5).take 1)=y5:=by rw [seg_one b5,num_one,v5]
 have n6:num ((b.drop 6).take 2)=nn:=by rw [seg_two b6 b7,num_two,v6,v7,hnn]
 have n8:num ((b.drop 8).take 4)=s8:=by rw [seg_four b8 b9 b10 b11,num_four,v8,v9,v10,v11,hs8]
 have n12:num ((b.drop 12).take 4)=s12:=by rw [seg_four b12 b13 b14 b15,num_four,v12,v13,v14,v15,hs12]
 have HF:Hid (frTake b=if b.take 4≠mark then (zeroFr,0,3) else if s8≠crc (b.take 8) then (zeroFr,0,5) else if 4096 < nn then (zeroFr,0,4) else if b.length - 16 < nn then (zeroFr,0,2)
  else if s12≠crc ((b.drop 16).take nn) then (zeroFr,0,5) else (⟨y4,y5,(b.drop 16).take nn⟩,16+nn,0)):=Lib.hid (by unfold frTake;rw [if_neg (by omega),n4,n5,n6,n8,n12])
 have HO2:Hid (bits .or .i64 ((y6:Int) * 256) (y7:Int)=(nn:Int)):=Lib.hid (by rw [or_two l6 l7,hnn])
 have hnn2:nn < 65536:=by omega
 have KU8:Hid (∀ W,In F0 w0 W R→Calls Tryz.prog 117 #[.slice (some ⟨ga,o+8,none⟩) (b.length - 8) (c - 8)] W fun e w'=>e=.returned (.int .u32 (s8:Int))∧∃ k,w'=W.drewN k):=Lib.hid (fun W hW=>by
  rw [hs8]
  exact o_qu32 l8 l9 l10 l11 (by omega) (k8 W hW) (k9 W hW) (k10 W hW) (k11 W hW))
 have KU12:Hid (∀ W,In F0 w0 W R→Calls Tryz.prog 117 #[.slice (some ⟨ga,o+12,none⟩) (b.length - 12) (c - 12)] W fun e w'=>e=.returned (.int .u32 (s12:Int))∧∃ k,w'=W.drewN k):=Lib.hid (fun W hW=>by
  rw [hs12]
  exact o_qu32 l12 l13 l14 l15 (by omega) (k12 W hW) (k13 W hW) (k14 W hW) (k15 W hW))
 have KC8:Hid (∀ W,In F0 w0 W R→Calls Tryz.prog 118 #[.slice (some ⟨ga,o,none⟩) 8 c] W fun e w'=>e=.returned (.int .u32 (crc (b.take 8)))∧w'=W):=Lib.hid (fun W hW=>by
  have e8:(b.take 8).length=8:=by rw [List.length_take];omega
  have:=rcrc_call (c:=c) (bs:=b.take 8) (by rw [e8];exact src_take (m:=8) (hb.src W hW) rfl (by omega)) (by rw [e8];omega)
  rw [e8] at this;exact this)
 have HCV:Hid (∀ W,In F0 w0 W R→(convert 32 9 (.slice (some ⟨ga,o,none⟩) 4 c)).run Tryz.prog W=.ok (.string ⟨(b.take 4).toArray⟩) W):=Lib.hid (fun W hW=>conv_str (src_take (m:=4) (hb.src W hW) rfl (by omega)) (fun e=>by cases e))
 have HBY:Hid (∀ W,In F0 w0 W R→(W.cell? ⟨ga,o+4,none⟩=some (.int .u8 y4)∧W.cell? ⟨ga,o+5,none⟩=some (.int .u8 y5))):=Lib.hid (fun W hW=>⟨k4 W hW,k5 W hW⟩)
 have r4:∀ w,(Instr.slice 32 (.slice (some ⟨ga,o,none⟩) b.length c) none (some (.int .i64 4)) none).run Tryz.prog w=.ok (.slice (some ⟨ga,o,none⟩) 4 c) w:=fun w=>run_pre_at ga o b.length c 4 (by omega) w
 have R8:Hid (∀ w,(Instr.slice 32 (.slice (some ⟨ga,o,none⟩) b.length c) none (some (.int .i64 8)) none).run Tryz.prog w=.ok (.slice (some ⟨ga,o,none⟩) 8 c) w):=Lib.hid (fun w=>run_pre_at ga o b.length c 8 (by omega) w)
 have RS8:Hid (∀ w,(Instr.slice 32 (.slice (some ⟨ga,o,none⟩) b.length c) (some (.int .i64 8)) none none).run Tryz.prog w=.ok (.slice (some ⟨ga,o+8,none⟩) (b.length - 8) (c - 8)) w):=Lib.hid (fun w=>run_suf ga o b.length c 8 (by omega) (by omega) w)
 have RS12:Hid (∀ w,(Instr.slice 32 (.slice (some ⟨ga,o,none⟩) b.length c) (some (.int .i64 12)) none none).run Tryz.prog w=.ok (.slice (some ⟨ga,o+12,none⟩) (b.length - 12) (c - 12)) w):=Lib.hid (fun w=>run_suf ga o b.length c 12 (by omega) (by omega) w)
 have HL45:=Lib.hid (And.intro l4 l5)
 have HCAP:=Lib.hid (And.intro hcap (And.intro hge hl))
 have c6:=k6 w1 h2.drop.drop
 have c7:=k7 w1 h2.drop.drop
 have H2:=Lib.hid h2
 have hlen16:16≤b.length:=hge
 clear h h2 hb hw1 h16 hl hcap hcell hge k4 k5 k6 k7 k8 k9 k10 k11 k12 k13 k14 k15 n4 n5 n6 n8 n12 hnn hs8 hs12 b4 b5 b6 b7 b8 b9 b10 b11 b12 b13 b14 b15 v4 v5 v6 v7 v8 v9 v10 v11 v12 v13 v14 v15 x4 x5 x6 x7 x8 x9 x10 x11 x12 x13 x14 x15 l4 l5 l8 l9 l10 l11 l12 l13 l14 l15
 go_enter Tryz.func53,Tryz.ntmps53
 go_upto_region 2 with fail
 rw [← HW.out]
 clear HW
 generalize w.heap.size=g at *
 go_wp2_with fail
 go_quiet (fail)
 rw [HO2.out]
 clear HO2 l6 l7 c6 c7
 obtain⟨w2,hw2⟩:∃ w2,w2=w1.drewN nq:=⟨_,rfl⟩
 have h2:In F0 w0 w2 (Cells (g+1) #[.int .i64 0,.int .i64 0,.slice none 0 0] 35::Cells g #[.int .i64 0,.int .i64 0,.slice none 0 0] 35::R):=by rw [hw2];exact H2.out.drewN nq
 rw [← hw2]
 have cv:=HCV.out w2 h2.drop.drop
 have G2:=Lib.hid h2
 have G2d:=Lib.hid (show In F0 w0 w2.drew (Cells (g+1) #[.int .i64 0,.int .i64 0,.slice none 0 0] 35::Cells g #[.int .i64 0,.int .i64 0,.slice none 0 0] 35::R) from h2.drewN 1)
 clear hw2 h2 HCV H2
 obtain⟨b4,hb4⟩:∃ b4,b4=b.take 4:=⟨_,rfl⟩
 rw [← hb4] at cv
 have HB4:=Lib.hid hb4
 clear hb4
 by_cases m4:b.take 4=mark
 case neg=>
  have bg:(b4 == [103,111,105,116])=false:=by
   have q:b4≠mark:=by rw [HB4.out];exact m4
   cases e:(b4 == [103,111,105,116]) with
   | false=>rfl
   | true=>exact absurd (eq_of_beq e) q
  have HE:=Lib.hid (fun W=>HERR.out W 3 (by rw [HF.out];rw [if_pos m4]))
  have e0:w2.cell? ⟨g+1,0,none⟩=some (.int .i64 0):=cell_of (G2.out.block 0 rfl) rfl
  have e1:w2.cell? ⟨g+1,1,none⟩=some (.int .i64 0):=cell_of (G2.out.block 0 rfl) rfl
  have e2:w2.cell? ⟨g+1,2,none⟩=some (.slice none 0 0):=cell_of (G2.out.block 0 rfl) rfl
  have d0:w2.cell? ⟨g,0,none⟩=some (.int .i64 0):=cell_of (G2.out.block 1 rfl) rfl
  have d1:w2.cell? ⟨g,1,none⟩=some (.int .i64 0):=cell_of (G2.out.block 1 rfl) rfl
  have d2:w2.cell? ⟨g,2,none⟩=some (.slice none 0 0):=cell_of (G2.out.block 1 rfl) rfl
  have f0:w2.frozen? ⟨g,0,none⟩=false:=free_of (G2.out.block 1 rfl)
  have f1:w2.frozen? ⟨g,1,none⟩=false:=free_of (G2.out.block 1 rfl)
  have f2:w2.frozen? ⟨g,2,none⟩=false:=free_of (G2.out.block 1 rfl)
  have G5:=Lib.hid (G2.out.setFull 1 rfl (xs:=[.int .i64 0,.int .i64 0,.slice none 0 0]) (b:=g) (C:=#[.int .i64 0,.int .i64 0,.slice none 0 0]) (T:=35) rfl)
  have G6:=Lib.hid (HE.out _ G5.out.drop.drop)
  clear HERR HF HC
  go_wp2_with fail
  exact bodyPost_ret (results_cell_tmp2_row Tryz.results53 _ _ g 35 _ (0,0) _ rfl (G5.out.block 1 rfl) Tryz.underlying35 rfl (by kernel_rfl)) rfl G6.out
 have bg:(b4 == [103,111,105,116])=true:=by rw [HB4.out,m4];rfl
 go_wp2_with fail
 clear cv bg HB4 r4
 have r8:=R8.out
 have rs8:=RS8.out
 go_region_held3 (fun _=>True) (first | trivial)
  (first
   | (go_at_call 118;refine (KC8.out _ G3.out.drop.drop).mono ?_;rintro e w3 ⟨rfl,rfl⟩)
   | (go_at_call 117;refine (KU8.out _ G2d.out.drop.drop).mono ?_;rintro e w3 ⟨rfl,kq,hkq⟩;have g3:In F0 w0 w3 (Cells (g+1) #[.int .i64 0,.int .i64 0,.slice none 0 0] 35::Cells g #[.int .i64 0,.int .i64 0,.slice none 0 0] 35::R):=(by rw [hkq];exact G2d.out.drewN kq);have G3:=Lib.hid g3;clear g3 hkq))
 clear r8 rs8 G2 G2d KU8 KC8 RS8 R8
 by_cases m8:s8=crc (b.take 8)
 case neg=>
  have q8:((s8:Int) != (crc (b.take 8):Int))=true:=by rw [bne_iff_ne];exact fun e=>m8 (Int.ofNat.inj e)
  have HE:=Lib.hid (fun W=>HERR.out W 5 (by rw [HF.out];rw [if_neg (by simp [m4]),if_pos m8]))
  have e0:w3.cell? ⟨g+1,0,none⟩=some (.int .i64 0):=cell_of (G3.out.block 0 rfl) rfl
  have e1:w3.cell? ⟨g+1,1,none⟩=some (.int .i64 0):=cell_of (G3.out.block 0 rfl) rfl
  have e2:w3.cell? ⟨g+1,2,none⟩=some (.slice none 0 0):=cell_of (G3.out.block 0 rfl) rfl
  have d0:w3.cell? ⟨g,0,none⟩=some (.int .i64 0):=cell_of (G3.out.block 1 rfl) rfl
  have d1:w3.cell? ⟨g,1,none⟩=some (.int .i64 0):=cell_of (G3.out.block 1 rfl) rfl
  have d2:w3.cell? ⟨g,2,none⟩=some (.slice none 0 0):=cell_of (G3.out.block 1 rfl) rfl
  have f0:w3.frozen? ⟨g,0,none⟩=false:=free_of (G3.out.block 1 rfl)
  have f1:w3.frozen? ⟨g,1,none⟩=false:=free_of (G3.out.block 1 rfl)
  have f2:w3.frozen? ⟨g,2,none⟩=false:=free_of (G3.out.block 1 rfl)
  have G5:=Lib.hid (G3.out.setFull 1 rfl (xs:=[.int .i64 0,.int .i64 0,.slice none 0 0]) (b:=g) (C:=#[.int .i64 0,.int .i64 0,.slice none 0 0]) (T:=35) rfl)
  have G6:=Lib.hid (HE.out _ G5.out.drop.drop)
  clear HERR HF HC
  go_wp2_with fail
  exact bodyPost_ret (results_cell_tmp2_row Tryz.results53 _ _ g 35 _ (0,0) _ rfl (G5.out.block 1 rfl) Tryz.underlying35 rfl (by kernel_rfl)) rfl G6.out
 have q8:((s8:Int) != (crc (b.take 8):Int))=false:=by rw [m8];exact bne_self_eq_false _
 have M8:Hid (¬ s8≠crc (b.take 8)):=Lib.hid (fun h=>h m8)
 clear m8
 generalize crc (b.take 8)=cr8 at *
 by_cases mn:4096 < nn
 case pos=>
  have qn:(4096:Int) < (nn:Int):=by omega
  have HE:=Lib.hid (fun W=>HERR.out W 4 (by rw [HF.out];rw [if_neg (by simp [m4]),if_neg M8.out,if_pos mn]))
  have e0:w3.cell? ⟨g+1,0,none⟩=some (.int .i64 0):=cell_of (G3.out.block 0 rfl) rfl
  have e1:w3.cell? ⟨g+1,1,none⟩=some (.int .i64 0):=cell_of (G3.out.block 0 rfl) rfl
  have e2:w3.cell? ⟨g+1,2,none⟩=some (.slice none 0 0):=cell_of (G3.out.block 0 rfl) rfl
  have d0:w3.cell? ⟨g,0,none⟩=some (.int .i64 0):=cell_of (G3.out.block 1 rfl) rfl
  have d1:w3.cell? ⟨g,1,none⟩=some (.int .i64 0):=cell_of (G3.out.block 1 rfl) rfl
  have d2:w3.cell? ⟨g,2,none⟩=some (.slice none 0 0):=cell_of (G3.out.block 1 rfl) rfl
  have f0:w3.frozen? ⟨g,0,none⟩=false:=free_of (G3.out.block 1 rfl)
  have f1:w3.frozen? ⟨g,1,none⟩=false:=free_of (G3.out.block 1 rfl)
  have f2:w3.frozen? ⟨g,2,none⟩=false:=free_of (G3.out.block 1 rfl)
  have G5:=Lib.hid (G3.out.setFull 1 rfl (xs:=[.int .i64 0,.int .i64 0,.slice none 0 0]) (b:=g) (C:=#[.int .i64 0,.int .i64 0,.slice none 0 0]) (T:=35) rfl)
  have G6:=Lib.hid (HE.out _ G5.out.drop.drop)
  clear HERR HF HC
  go_wp2_with fail
  exact bodyPost_ret (results_cell_tmp2_row Tryz.results53 _ _ g 35 _ (0,0) _ rfl (G5.out.block 1 rfl) Tryz.underlying35 rfl (by kernel_rfl)) rfl G6.out
 have qn:¬ (4096:Int) < (nn:Int):=by omega
 have hwn:wrap64 (16+(nn:Int))=16+(nn:Int):=by unfold wrap64;omega
 have hwn2:IntKind.i64.wrap (16+(nn:Int))=16+(nn:Int):=IntWalk.i64_in _ (by omega)
 by_cases ml:b.length - 16 < nn
 case pos=>
  have ql:(b.length:Int) < 16+(nn:Int):=by omega
  have HE:=Lib.hid (fun W=>HERR.out W 2 (by rw [HF.out];rw [if_neg (by simp [m4]),if_neg M8.out,if_neg mn,if_pos ml]))
  have e0:w3.cell? ⟨g+1,0,none⟩=some (.int .i64 0):=cell_of (G3.out.block 0 rfl) rfl
  have e1:w3.cell? ⟨g+1,1,none⟩=some (.int .i64 0):=cell_of (G3.out.block 0 rfl) rfl
  have e2:w3.cell? ⟨g+1,2,none⟩=some (.slice none 0 0):=cell_of (G3.out.block 0 rfl) rfl
  have d0:w3.cell? ⟨g,0,none⟩=some (.int .i64 0):=cell_of (G3.out.block 1 rfl) rfl
  have d1:w3.cell? ⟨g,1,none⟩=some (.int .i64 0):=cell_of (G3.out.block 1 rfl) rfl
  have d2:w3.cell? ⟨g,2,none⟩=some (.slice none 0 0):=cell_of (G3.out.block 1 rfl) rfl
  have f0:w3.frozen? ⟨g,0,none⟩=false:=free_of (G3.out.block 1 rfl)
  have f1:w3.frozen? ⟨g,1,none⟩=false:=free_of (G3.out.block 1 rfl)
  have f2:w3.frozen? ⟨g,2,none⟩=false:=free_of (G3.out.block 1 rfl)
  have G5:=Lib.hid (G3.out.setFull 1 rfl (xs:=[.int .i64 0,.int .i64 0,.slice none 0 0]) (b:=g) (C:=#[.int .i64 0,.int .i64 0,.slice none 0 0]) (T:=35) rfl)
  have G6:=Lib.hid (HE.out _ G5.out.drop.drop)
  clear HERR HF HC
  go_wp2_with fail
  exact bodyPost_ret (results_cell_tmp2_row Tryz.results53 _ _ g 35 _ (0,0) _ rfl (G5.out.block 1 rfl) Tryz.underlying35 rfl (by kernel_rfl)) rfl G6.out
 have ql:¬ (b.length:Int) < 16+(nn:Int):=by omega
 have hnb:((b.drop 16).take nn).length=nn:=by rw [List.length_take,List.length_drop];omega
 obtain⟨o',c',hrm,hsm⟩:∃ o' c',(∀ w,(Instr.slice 32 (.slice (some ⟨ga,o,none⟩) b.length c) (some (.int .i64 16)) (some (.int .i64 (16+(nn:Int)))) none).run Tryz.prog w=.ok (.slice (some ⟨ga,o',none⟩) nn c') w)∧∀ W,In F0 w0 W R→Src W (some ⟨ga,o',none⟩) nn 1 (u8s ((b.drop 16).take nn)):=by
  have hcp:=HCAP.out.1
  by_cases hc16:16 < c
  ·refine⟨o+16,c - 16,fun w=>?_,fun W hW=>?_⟩
   ·have:=run_mid ga o b.length c 16 (16+nn) hc16 (by omega) (by omega) w
    rw [show ((16+nn:Nat):Int)=16+(nn:Int) by omega] at this
    rw [show 16+nn - 16=nn by omega] at this
    exact this
   ·by_cases hb16:16 < b.length
    ·exact src_take (src_drop (HB.out.src W hW) rfl hb16) (by rw [List.length_drop]) (by omega)
    ·have h0:nn=0:=by omega
     subst h0
     rw [List.take_zero];exact Src.nil _ _ _
  ·have h0:nn=0:=by omega
   have hcc:c=16:=by omega
   refine⟨o,0,fun w=>?_,fun W hW=>?_⟩
   ·have:=run_mid_end ga o b.length 16 w
    rw [h0,hcc];exact this
   ·rw [h0,List.take_zero];exact Src.nil _ _ _
 have KC16:Hid (∀ W,In F0 w0 W R→Calls Tryz.prog 118 #[.slice (some ⟨ga,o',none⟩) nn c'] W fun e w'=>e=.returned (.int .u32 (crc ((b.drop 16).take nn)))∧w'=W):=Lib.hid (fun W hW=>by
  have:=rcrc_call (c:=c') (bs:=(b.drop 16).take nn) (by rw [hnb];exact hsm W hW) (by rw [hnb];have:=HCAP.out.2.2;omega)
  rw [hnb] at this;exact this)
 have HSM:=Lib.hid hsm
 have MN:=Lib.hid mn
 have ML:=Lib.hid ml
 have rs12:=RS12.out
 have G3d:=Lib.hid (show In F0 w0 w3.drew (Cells (g+1) #[.int .i64 0,.int .i64 0,.slice none 0 0] 35::Cells g #[.int .i64 0,.int .i64 0,.slice none 0 0] 35::R) from G3.out.drewN 1)
 have HNB:=Lib.hid hnb
 clear RS12 hsm mn ml G3 hnb
 go_wp2_with fail
 go_region_held3 (fun _=>True) (first | trivial)
  (first
   | (go_at_call 118;refine (KC16.out _ G5.out.drop.drop).mono ?_;rintro e w5 ⟨rfl,rfl⟩)
   | (go_at_call 117;refine (KU12.out _ G3d.out.drop.drop).mono ?_;rintro e w5 ⟨rfl,kq,hkq⟩;have g5:In F0 w0 w5 (Cells (g+1) #[.int .i64 0,.int .i64 0,.slice none 0 0] 35::Cells g #[.int .i64 0,.int .i64 0,.slice none 0 0] 35::R):=(by rw [hkq];exact G3d.out.drewN kq);have G5:=Lib.hid g5;clear g5 hkq))
 clear rs12 G3d KU12 KC16
 have GB:=G5
 clear G5
 by_cases m12:s12=crc ((b.drop 16).take nn)
 case neg=>
  have q12:((s12:Int) != (crc ((b.drop 16).take nn):Int))=true:=by rw [bne_iff_ne];exact fun e=>m12 (Int.ofNat.inj e)
  have HE:=Lib.hid (fun W=>HERR.out W 5 (by rw [HF.out];rw [if_neg (by simp [m4]),if_neg M8.out,if_neg MN.out,if_neg ML.out,if_pos m12]))
  have e0:w5.cell? ⟨g+1,0,none⟩=some (.int .i64 0):=cell_of (GB.out.block 0 rfl) rfl
  have e1:w5.cell? ⟨g+1,1,none⟩=some (.int .i64 0):=cell_of (GB.out.block 0 rfl) rfl
  have e2:w5.cell? ⟨g+1,2,none⟩=some (.slice none 0 0):=cell_of (GB.out.block 0 rfl) rfl
  have d0:w5.cell? ⟨g,0,none⟩=some (.int .i64 0):=cell_of (GB.out.block 1 rfl) rfl
  have d1:w5.cell? ⟨g,1,none⟩=some (.int .i64 0):=cell_of (GB.out.block 1 rfl) rfl
  have d2:w5.cell? ⟨g,2,none⟩=some (.slice none 0 0):=cell_of (GB.out.block 1 rfl) rfl
  have f0:w5.frozen? ⟨g,0,none⟩=false:=free_of (GB.out.block 1 rfl)
  have f1:w5.frozen? ⟨g,1,none⟩=false:=free_of (GB.out.block 1 rfl)
  have f2:w5.frozen? ⟨g,2,none⟩=false:=free_of (GB.out.block 1 rfl)
  have G5:=Lib.hid (GB.out.setFull 1 rfl (xs:=[.int .i64 0,.int .i64 0,.slice none 0 0]) (b:=g) (C:=#[.int .i64 0,.int .i64 0,.slice none 0 0]) (T:=35) rfl)
  have G6:=Lib.hid (HE.out _ G5.out.drop.drop)
  clear HERR HF HC
  go_wp2_with fail
  exact bodyPost_ret (results_cell_tmp2_row Tryz.results53 _ _ g 35 _ (0,0) _ rfl (G5.out.block 1 rfl) Tryz.underlying35 rfl (by kernel_rfl)) rfl G6.out
 have q12:((s12:Int) != (crc ((b.drop 16).take nn):Int))=false:=by rw [m12];exact bne_self_eq_false _
 have HOK:Hid (∀ (W:World) (v:Value),In F0 w0 W (RowA 5 1 v nn (u8s ((b.drop 16).take nn))::R)→TakeFrPost b F0 w0 R (.returned (.tuple #[.agg #[.int .i64 y4,.int .i64 y5,v],.int .i64 (16+(nn:Int)),.int .i64 0])) W):=Lib.hid (fun W v hW=>by
  have e:frTake b=(⟨y4,y5,(b.drop 16).take nn⟩,16+nn,0):=by rw [HF.out,if_neg (by simp [m4]),if_neg M8.out,if_neg MN.out,if_neg ML.out,if_neg (by simp [m12])]
  refine⟨v,by rw [e];simp only;rw [Int.natCast_add];rfl,?_⟩
  rw [e];simp only;rw [HNB.out];exact hW)
 clear m12 HERR HF M8 MN ML
 generalize crc ((b.drop 16).take nn)=cr16 at *
 generalize hbody:(b.drop 16).take nn=body at *
 clear hbody
 go_wp2_with fail
 have GR:=Lib.hid (show In F0 w0 w5.drew (RowA 5 1 (.slice none 0 0) 0 []::Cells (g+1) #[.int .i64 0,.int .i64 0,.slice none 0 0] 35::Cells g #[.int .i64 0,.int .i64 0,.slice none 0 0] 35::R) from (GB.out.drewN 1).rownil 5 1)
 have hz0:w5.drew.cell? ⟨ga,o+4,none⟩=some (.int .u8 y4)∧w5.drew.cell? ⟨ga,o+5,none⟩=some (.int .u8 y5):=HBY.out _ GR.out.drop.drop.drop
 obtain⟨l4,l5⟩:=HL45.out
 have HNA:Hid (0+nn≤1000000000):=Lib.hid (by omega)
 have hw4:IntKind.i64.wrap (y4:Int)=(y4:Int):=IntWalk.i64_in _ (by omega)
 have hw5:IntKind.i64.wrap (y5:Int)=(y5:Int):=IntWalk.i64_in _ (by omega)
 have i4:(4:Int) < (b.length:Int):=by omega
 have i5:(5:Int) < (b.length:Int):=by omega
 have i4':4 < b.length:=by omega
 have i5':5 < b.length:=by omega
 clear GB q8 q12 qn HL45
 go_region_held3 (fun w'=>w'.cell? ⟨ga,o+4,none⟩=some (.int .u8 y4)∧w'.cell? ⟨ga,o+5,none⟩=some (.int .u8 y5)) (first | exact hz8 | exact hz7 | exact hz0)
  (first
   | (refine app_step rfl (by exact GR.out) 0 rfl (.const (.slice none 0 0)) (.tmp 70) 32 (by rfl) Tryz.underlying32 infoByte (by decide) (by decide) (by rfl) (by rfl) (by exact HSM.out _ GR.out.drop.drop.drop) (u8s_one _) (by exact HNA.out) ?_
      intro v7 w7 ho hg
      have g7:In F0 w0 w7 (RowA 5 1 v7 nn (u8s body)::Cells (g+1) #[.int .i64 0,.int .i64 0,.slice none 0 0] 35::Cells g #[.int .i64 0,.int .i64 0,.slice none 0 0] 35::R):=by simpa using ho
      obtain⟨F7,r7⟩:=g7.get 0 rfl
      obtain⟨a7,c7,rfl,-,-,-⟩:=RowA.shape r7
      have hz7:=HBY.out _ g7.drop.drop.drop
      have d0:w7.cell? ⟨g,0,none⟩=some (.int .i64 0):=cell_of (g7.block 2 rfl) rfl
      have d1:w7.cell? ⟨g,1,none⟩=some (.int .i64 0):=cell_of (g7.block 2 rfl) rfl
      have d2:w7.cell? ⟨g,2,none⟩=some (.slice none 0 0):=cell_of (g7.block 2 rfl) rfl
      have f0:w7.frozen? ⟨g,0,none⟩=false:=free_of (g7.block 2 rfl)
      have f1:w7.frozen? ⟨g,1,none⟩=false:=free_of (g7.block 2 rfl)
      have f2:w7.frozen? ⟨g,2,none⟩=false:=free_of (g7.block 2 rfl)
      have g8:=(show In F0 w0 w7 (Cells g #[.int .i64 0,.int .i64 0,.slice none 0 0] 35::RowA 5 1 (.slice a7 nn c7) nn (u8s body)::R) from g7.sel2 (R1:=[_,_,_]) (R2:=R) [2,0] (by decide) rfl).set3 (.int .i64 y4) (.int .i64 y5) (.slice a7 nn c7)
      have hz8:=HBY.out _ g8.drop.drop
      have G8:=Lib.hid g8
      clear ho hg g7 g8 r7))
 have G9:=Lib.hid (HOK.out _ _ G8.out.drop)
 clear HOK hz0 hz7 hz8 GR d0 d1 d2 f0 f1 f2
 go_wp2_with fail
 exact bodyPost_ret (results_cell_tmp2_row Tryz.results53 _ _ g 35 _ (0,0) _ rfl (G8.out.block 0 rfl) Tryz.underlying35 rfl (by kernel_rfl)) rfl G9.out
end
section
variable {F0:List Nat} {w0 w:World} {R:List Asrt}
theorem o_qscan (h:In F0 w0 w R) {A:Option Addr} {c:Nat} {b:List UInt8} (hb:Bytes F0 w0 R A c b) (hl:b.length≤10000000) :
  Calls Tryz.prog 13 #[.slice A b.length c] w (ScanPost b F0 w0 R):=by
 have HS:Hid (ScanRel b F0 w0 R (.slice none 0 0) (.int .i64 0) w):=Lib.hid ⟨0,[],[],rfl,Nat.zero_le _,rfl,Nat.zero_le _,by simp,h.rownil _ _⟩
 have HB:=Lib.hid hb
 have hcap:=hb.cap
 clear h hb
 go_enter Tryz.func13,Tryz.ntmps13
 go_wp2_with fail
 go_loopw [5,6] (ScanRel b F0 w0 R) (fun _ k _=>b.length - (intOf k).toNat)
 case atStart=>exact HS.out
 case round=>
  obtain⟨n,fs,vs,rfl,hn,hvs,hfn,hsc,ho⟩:=hrel
  clear HS
  obtain⟨Fr,hr⟩:=ho.get 0 rfl
  obtain⟨a,cap,rfl,-,-,-⟩:=hr.shape
  clear hr
  by_cases hlt:n < b.length
  ·have hlt':(n:Int) < (b.length:Int):=by omega
   obtain⟨g,o,rfl⟩:∃ g o,A=some ⟨g,o,none⟩:=by
    rcases HB.out.ad with rfl | h
    ·have:=(HB.out.nil rfl).2;subst this;simp at hlt
    ·exact h
   have r1:(Instr.slice 32 (.slice (some ⟨g,o,none⟩) b.length c) (some (.int .i64 n)) none none).run Tryz.prog wr=.ok (.slice (some ⟨g,o+n,none⟩) (b.length - n:Nat) (c - n)) wr:=by
    have:=run_suffix Tryz.underlying32 infoByte (some ⟨g,o,none⟩) b.length c n (by omega) wr
    rw [this,sufA,if_neg (by omega)]
    simp [add_at]
   have hb2:Bytes F0 w0 (RowA 35 3 (.slice a fs.length cap) fs.length (flatFr fs vs)::(bodiesR vs fs++R)) (some ⟨g,o+n,none⟩) (c - n) (b.drop n):=
    ⟨fun w' h'=>by rw [List.length_drop];exact src_drop (HB.out.src w' h'.drop.right) rfl hlt,(fun e=>by cases e),Or.inr ⟨_,_,rfl⟩,by rw [List.length_drop];omega,by have:=HB.out.room;omega⟩
   have C1:=o_qtake ho hb2 (by rw [List.length_drop];omega)
   have hdl:(b.drop n).length=b.length - n:=List.length_drop
   rw [hdl] at C1
   have K1:=Lib.hid C1
   have hstep:(frTake (b.drop n)).2.2=0→frScan b=((fs++[(frTake (b.drop n)).1])++(frScan (b.drop (n+(frTake (b.drop n)).2.1))).1,(n+(frTake (b.drop n)).2.1)+(frScan (b.drop (n+(frTake (b.drop n)).2.1))).2.1,(frScan (b.drop (n+(frTake (b.drop n)).2.1))).2.2):=fun h0=>by
    rw [hsc,frScan_step h0,List.drop_drop]
    simp [Nat.add_assoc]
   have hend:(frTake (b.drop n)).2.2≠0→frScan b=(fs,n,(frTake (b.drop n)).2.2):=fun h0=>by
    rw [hsc,frScan_end (by intro e;have:=congrArg List.length e;rw [hdl] at this;simp at this;omega) h0]
    simp
   have htk:(frTake (b.drop n)).2.2=0→16≤(frTake (b.drop n)).2.1∧n+(frTake (b.drop n)).2.1≤b.length:=fun h0=>by
    obtain⟨k1,k2,_⟩:=frTake_ok h0
    rw [hdl] at k2;exact⟨k1,by omega⟩
   have HST:=Lib.hid hstep
   have HEN:=Lib.hid hend
   have HTK:=Lib.hid htk
   have HV:=Lib.hid hvs
   clear ho hsc hb2 C1 hdl hstep hend htk hvs hlt
   go_wp2_with fail
   refine K1.out.mono ?_
   rintro e w1 ⟨vb,rfl,g1⟩
   clear K1
   obtain⟨Fb,hrb⟩:=g1.get 0 rfl
   obtain⟨ab,cb,rfl,-,-,-⟩:=hrb.shape
   clear hrb
   by_cases h0:(frTake (b.drop n)).2.2=0
   ·obtain⟨k1,k2⟩:=HTK.out h0
    have HSC:=Lib.hid (HST.out h0)
    have G1:=Lib.hid g1
    clear HST HEN g1
    generalize hT:frTake (b.drop n)=T at *
    obtain⟨⟨kd,vd,body⟩,m,er⟩:=T
    simp only at h0 k1 k2 HSC G1 ⊢
    subst h0
    clear hT
    have H2:=Lib.hid (G1.out.cells #[.int .i64 kd,.int .i64 vd,.slice ab body.length cb] 35)
    have h3:=H2.out.cells #[.int .i64 kd,.int .i64 vd,.slice ab body.length cb] 35
    simp only [World.size_alloc] at h3
    have H3:=Lib.hid h3
    clear h3
    have sb:=H3.out.block 0 rfl
    have SB:=Lib.hid (Src.of_block (k:=3) sb rfl)
    clear G1 sb
    go_wp2_with (at_builtin;refine app_list rfl H3.out 3 rfl (.tmp 27) (.tmp 29) 31 (by rfl) Tryz.underlying31 infoFrame (by decide) (by decide) (by rfl) (by rfl) SB.out (fun u hu=>by simp at hu;rcases hu with rfl | rfl | rfl <;> rfl) (by omega) ?_)
    intro v' w3 ho hg
    obtain⟨Fw,hw⟩:=ho.get 3 rfl
    obtain⟨aw,cw,rfl,-,-,-⟩:=hw.shape
    have HR:Hid (ScanRel b F0 w0 R (.slice aw (fs.length+1) cw) (.int .i64 (n+m)) w3):=Lib.hid (by
     refine⟨n+m,fs++[⟨kd,vd,body⟩],vs++[.slice ab body.length cb],by go_num,k2,by simp [HV.out],by simp;omega,HSC.out,?_⟩
     rw [flatFr_snoc _ _ HV.out,bodiesR_snoc _ _ HV.out,List.length_append]
     have h4:=ho.drop.drop
     have h5:In F0 w0 w3 (bodyA (.slice ab body.length cb) ⟨kd,vd,body⟩::RowA 35 3 (.slice aw (fs.length+1) cw) (fs.length+1) (flatFr fs vs++encFr ⟨kd,vd,body⟩ (.slice ab body.length cb))::(bodiesR vs fs++R)):=h4
     refine h5.perm ?_
     refine (List.Perm.swap _ _ _).trans (List.Perm.cons _ ?_)
     rw [List.append_assoc]
     exact List.perm_middle.symm)
    clear ho hg hw H2 H3 HSC HV HTK SB
    go_wp2_with fail
    go_roundw
    case rel=>exact HR.out
    case measure=>simp [intOf];omega
   ·have q:((frTake (b.drop n)).2.2 != 0)=true:=by rw [bne_iff_ne];exact h0
    have HF:Hid (∀ w',In F0 w0 w' (RowA 35 3 (.slice a fs.length cap) fs.length (flatFr fs vs)::(bodiesR vs fs++R))→ScanPost b F0 w0 R (.returned (.tuple #[.slice a fs.length cap,.int .i64 n,.int .i64 (frTake (b.drop n)).2.2])) w'):=Lib.hid fun w' h'=>by
     refine⟨_,by rw [HEN.out h0],?_⟩
     rw [HEN.out h0]
     exact frs_close HV.out h'
    have G1:=Lib.hid (fun o=>HF.out _ (g1.drop.alloc o))
    clear HST HEN HTK g1 HF h0
    generalize frTake (b.drop n)=T at *
    go_wp2_with fail
    go_ret3
    exact G1.out _
  ·have hge:(b.length:Int)≤(n:Int):=by omega
   have hnl:n=b.length:=by omega
   have HF:Hid (ScanPost b F0 w0 R (.returned (.tuple #[.slice a fs.length cap,.int .i64 n,.int .i64 0])) wr):=Lib.hid (by
    have e:frScan b=(fs,n,0):=by rw [hsc,hnl,List.drop_length,frScan_nil];simp
    exact⟨_,by rw [e],by rw [e];exact frs_close hvs ho⟩)
   clear ho hsc hvs hlt hnl
   go_wp2_with fail
   go_ret3
   exact HF.out
end
end Go.Proofs.YtaopfagclnocdaaGreatDoor
