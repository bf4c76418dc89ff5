/- Rows.LogCleansCardSaid -/
import Derived.Test.YtaopfagclnocdaaGreatDoorLC17
import Derived.Test.YtaopfagclnocdaaGreatDoorLC18
import Derived.Test.YtaopfagclnocdaaGreatDoorLC15
import Derived.Test.YtaopfagclnocdaaGreatDoorLC6
import Derived.Test.YtaopfagclnocdaaGreatDoorShelfI
import Derived.Test.YtaopfagclnocdaaGreatDoorChecked
namespace Go.Proofs.YtaopfagclnocdaaGreatDoor
open Go.RowKit
open Go.RowKit Go.Shelf
set_option linter.unusedVariables false
set_option maxHeartbeats 64000000
set_option maxRecDepth 100000
section
variable {F0:List Nat} {w0 w:World} {R:List Asrt} {bd lb:Nat} {d:DiskD} {l:LogD}
theorem o_lgsegs (hl:LgOk l) (h:In F0 w0 w (LgA lb bd l::R)):Calls Tryz.prog 10 #[dptr lb] w fun e w'=>∃ a c,e=.returned (.slice a l.m.segs.length c)∧In F0 w0 w' (IntsR (.slice a l.m.segs.length c) l.m.segs::LgA lb bd l::R):=by
 obtain⟨a,c,h1⟩:=h.lgOpen
 have c4:w.cell? ⟨lb,4,none⟩=some (.slice a l.m.segs.length c):=cell_of (h1.block 1 rfl) rfl
 obtain⟨F1,r1⟩:=h1.get 0 rfl
 have hn:=(mayM_iff.1 hl.2.2).1.2.2.2.1
 have K:=Lib.hid (o_iclone h (fun e=>RowA.noc r1 e) r1.all (by omega))
 clear h h1 r1
 go_enter Tryz.func10,Tryz.ntmps10
 go_wp2_with fail
 refine K.out.mono ?_
 rintro e w1 ⟨a',c',rfl,g⟩
 have G:=Lib.hid g
 clear g K c4
 go_wp2_with fail
 go_ret
 exact⟨_,_,rfl,G.out⟩
def SizeRelL (lb bd:Nat) (l:LogD) (d:DiskD) (a:Option Addr) (c:Nat) (F0:List Nat) (w0:World) (R:List Asrt) (n i:Value) (wr:World):Prop:=
 ∃ k:Nat,k≤l.m.segs.length∧i=.int .i64 k∧n=.int .i64 (((l.m.segs.take k).map (fun x=>bytesD d (segName x))).sum:Nat)∧In F0 w0 wr (LgA lb bd l::DkA bd d::IntsR (.slice a l.m.segs.length c) l.m.segs::R)
end
section
variable {F0:List Nat} {w0 w:World} {R:List Asrt} {bd lb:Nat} {d:DiskD} {l:LogD}
def CleanRel (lb bd:Nat) (l:LogD) (d:DiskD) (a:Option Addr) (c:Nat) (F0:List Nat) (w0:World) (R:List Asrt) (n i:Value) (wr:World):Prop:=
 ∃ (k:Nat) (z:Int),k≤d.now.length∧i=.int .i64 k∧n=.int .i64 z∧In F0 w0 wr (LgA lb bd l::DkA bd (cleanD l ((dNames d).take k) d)::NmRowA (.slice a d.now.length c) d.now::R)
end
theorem q_itoa (i:Nat) (hi:i < 100) (w:World):Calls Tryz.prog 52 #[.int .i64 i] w fun e w'=>e=.returned (.string ⟨(Lib.decDigits i).toArray⟩)∧w'=w:=Any.strconv_Itoa_small Tryz.itoaS i hi w
theorem dec_small {i:Nat} (hi:i < 100):∃ z,Lib.decDigits i=z∧1≤z.length∧z.length≤2∧List.replicate (6 - z.length) 48++z=[dig i 5,dig i 4,dig i 3,dig i 2,dig i 1,dig i 0]:=by
 refine⟨_,rfl,?_⟩
 have p5:i / 10 ^ 5=i / 100000:=rfl
 have p4:i / 10 ^ 4=i / 10000:=rfl
 have p3:i / 10 ^ 3=i / 1000:=rfl
 have p2:i / 10 ^ 2=i / 100:=rfl
 have d5:dig i 5=48:=by unfold dig;rw [p5,show i / 100000 % 10=0 by omega];rfl
 have d4:dig i 4=48:=by unfold dig;rw [p4,show i / 10000 % 10=0 by omega];rfl
 have d3:dig i 3=48:=by unfold dig;rw [p3,show i / 1000 % 10=0 by omega];rfl
 have d2:dig i 2=48:=by unfold dig;rw [p2,show i / 100 % 10=0 by omega];rfl
 have d0:dig i 0=UInt8.ofNat (48+i % 10):=by unfold dig;rw [Nat.pow_zero,Nat.div_one]
 by_cases h:i < 10
 ·have e:Lib.decDigits i=[UInt8.ofNat (48+i)]:=by unfold Lib.decDigits;rw [dif_pos h]
  have d1:dig i 1=48:=by unfold dig;rw [Nat.pow_one,show i / 10 % 10=0 by omega];rfl
  rw [e,d5,d4,d3,d2,d1,d0,show i % 10=i by omega]
  exact⟨by simp,by simp,rfl⟩
 ·have e:Lib.decDigits i=[UInt8.ofNat (48+i / 10),UInt8.ofNat (48+i % 10)]:=by
   rw [Lib.decDigits,dif_neg h]
   rw [Lib.decDigits,dif_pos (by omega)];rfl
  have d1:dig i 1=UInt8.ofNat (48+i / 10):=by unfold dig;rw [Nat.pow_one,show i / 10 % 10=i / 10 by omega]
  rw [e,d5,d4,d3,d2,d1,d0]
  exact⟨by simp,by simp,rfl⟩
theorem ba_app (a b:Array UInt8):((⟨a⟩:ByteArray)++⟨b⟩)=⟨a++b⟩:=ByteArray.ext (by simp)
def SegRel (z:List UInt8) (s:Value) (w wr:World):Prop:=∃ k:Nat,k+z.length≤6∧s=.string ⟨(List.replicate k 48++z).toArray⟩∧wr=w
theorem q_segname {s:Nat} (h1:1≤s) (h2:s < 100) (w:World):Calls Tryz.prog 12 #[.int .i64 s] w fun e w'=>e=.returned (.string (segName s))∧w'=w:=by
 obtain⟨z,hz,z1,z2,hrep⟩:=dec_small h2
 have KI:=Lib.hid (q_itoa s h2 w)
 rw [hz] at KI
 have hs1:¬ ((s:Int) < 1):=by omega
 have hs2:¬ ((999999:Int) < (s:Int)):=by omega
 clear hz
 go_enter Tryz.func12,Tryz.ntmps12
 go_wp2_with fail
 refine KI.out.mono ?_
 rintro e w1 ⟨rfl,rfl⟩
 clear KI
 go_wp2_with fail
 go_loopw [3] (fun s wr=>SegRel z s w1 wr) (fun s _=>match s with | .string b=>6 - b.size | _=>0)
 case atStart=>exact⟨0,by omega,by simp,rfl⟩
 case round=>
  obtain⟨k,hk,rfl,rfl⟩:=hrel
  by_cases hlt:k+z.length < 6
  ·go_wp2_with fail
   refine⟨⟨k+1,by omega,?_,rfl⟩,?_⟩
   ·rw [ba_app,List.replicate_succ];simp
   ·simp only [ba_app,ByteArray.size]
    simp
    omega
  ·go_wp2_with fail
   go_ret
   refine⟨?_,rfl⟩
   rw [ba_app]
   have hk2:k=6 - z.length:=by omega
   subst hk2
   unfold segName
   rw [if_neg (by omega),hrep]
   rfl
end Go.Proofs.YtaopfagclnocdaaGreatDoor
