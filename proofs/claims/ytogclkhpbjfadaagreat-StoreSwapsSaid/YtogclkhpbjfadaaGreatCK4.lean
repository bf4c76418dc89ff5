/- Parts of the proofs that a compaction keeps what lives, and done again is as once. -/
import Derived.Test.YtogclkhpbjfadaaGreatCK3
import Derived.Laws.Bits64b
import Derived.Test.YtogclkhpbjfadaaGreatCK1
import Derived.ProofKit
import Derived.SliceStrings
import Derived.Deep.Slices
import Derived.Deep.Fields
namespace Go.Proofs.YtogclkhpbjfadaaGreat
open Go.RowKit
open Go.RowKit Go.ChangeShapes Go.WideShapes Go.Deep
set_option linter.unusedVariables false
set_option maxHeartbeats 64000000
set_option maxRecDepth 100000
section
variable {F0:List Nat} {w0 w:World} {R:List az} {bw:Nat} {l:List UInt8}
theorem Ps (h:In F0 w0 w R) (i:Nat) (hA:R[i]?=some (WA bw l)) (hl:l.length≤1000000) {A:Option Addr} {c:Nat} {bs:List UInt8} (hs:Src w A bs.length 1 (eD bs)) (hb:bs.length≤10000000) :
  Calls Tryz.prog 153 #[.pointer (some ⟨bw,0,none⟩),.slice A bs.length c] w fun e w'=>e=.returned (.tuple #[])∧In F0 w0 w' (R.set i (WA bw (l++bs))):=by
 have hi:=(List.getElem?_eq_some_iff.1 hA).1
 obtain⟨v,h1⟩:=h.ex (G:=fun v=>Star (LH bw v l)) i hA (fun v=>bC.star LH.aA)
 have h2:=h1.split (A:=Cells bw #[v] 216) (B:=ay 5 1 v l.length (eD l)) i (by simp [hi,LH]) (Cells.aA _ _ _) (ay.aA _ _ _ _ _)
 rw [List.set_set] at h2
 obtain⟨F,hr⟩:=h2.get 0 rfl
 obtain⟨a,cap,rfl,-,-,-⟩:=hr.shape
 have hbk:=h2.block (i+1) (b:=bw) (C:=#[.slice a l.length cap]) (T:=216) (by rw [List.getElem?_cons_succ,List.getElem?_set_self hi])
 have c0:w.cell? ⟨bw,0,none⟩=some (.slice a l.length cap):=cell_of hbk rfl
 have HH:=Lib.hid h2
 have SS:=Lib.hid hs
 have HP:Hid (∀ w' v',In F0 w0 w' (ay 5 1 v' (l.length+bs.length) (eD l++eD bs)::R.set i (Cells bw #[.slice a l.length cap] 216)) →
   w'.cell? ⟨bw,0,none⟩=some (.slice a l.length cap)∧w'.frozen? ⟨bw,0,none⟩=false∧In F0 w0 (w'.setCell ⟨bw,0,none⟩ v') (R.set i (WA bw (l++bs)))):=Lib.hid fun w' v' h'=>by
  have hb:=h'.block (i+1) (b:=bw) (C:=#[.slice a l.length cap]) (T:=216) (by rw [List.getElem?_cons_succ,List.getElem?_set_self hi])
  refine⟨cell_of hb rfl,aL hb,?_⟩
  have h3:=h'.put (b:=bw) (C:=#[.slice a l.length cap]) (T:=216) (i+1) (by rw [List.getElem?_cons_succ,List.getElem?_set_self hi]) 0 v'
  have h4:In F0 w0 (w'.setCell ⟨bw,0,none⟩ v') (ay 5 1 v' (l++bs).length (eD (l++bs))::R.set i (Cells bw #[v'] 216)):=by
   rw [List.length_append,← uI]
   simpa [List.set_set] using h3
  have h5:=h4.fold (C:=WA bw (l++bs)) (A:=Cells bw #[v'] 216) i (by simp [hi]) (WA.aA _ _) (fun F hF=>⟨v',hF⟩)
  rwa [List.set_set] at h5
 clear h h1 h2 hA hr hbk hs hi
 go_enter Tryz.func153,Tryz.ntmps153
 go_wp2_with (at_builtin;refine iP rfl HH.out 0 rfl (.tmp 10) (.tmp 11) 23 (by rfl) Tryz.underlying23 infoByte (by decide) (by decide) (by rfl) (by rfl) SS.out (vP _) (by omega) ?_)
 intro v' w3 ho hg
 obtain⟨Fw,hw⟩:=ho.get 0 rfl
 obtain⟨aw,cw,rfl,-,-,-⟩:=hw.shape
 obtain⟨d0,d1,hfin⟩:=HP.out w3 _ ho
 have HF:=Lib.hid hfin
 clear ho hw hfin hg HH SS HP
 go_wp2_with fail
 go_end0
 exact⟨rfl,HF.out⟩
def qL (br:Nat) (l:List UInt8) (e:Int):az:=fun w F=>∃ v,w.heap[br]?=some (.cells #[v,.int .i64 e] 265 (0,0)) ∧
 ((v=.slice none 0 0∧l=[]∧F=[br])∨∃ g o cap,v=.slice (some ⟨g,o,none⟩) l.length cap∧l.length≤cap∧cap≤maxLen∧g≠br∧F=[br,g]∧g < w.heap.size∧∀ j u,(eD l)[j]?=some u→w.cell? ⟨g,o+j,none⟩=some u)
theorem qL.aA (br:Nat) (l:List UInt8) (e:Int):bC (qL br l e):=by
 refine⟨?_,?_⟩
 ·rintro w w' F ⟨v,hb,h⟩ hk
  rcases h with ⟨h1,h2,rfl⟩|⟨g,o,cap,h1,h2,h3,h4,rfl,h5,h6⟩
  ·exact⟨v,by rw [hk br (by simp)];exact hb,Or.inl ⟨h1,h2,rfl⟩⟩
  ·have hg:=hk g (by simp)
   refine⟨v,by rw [hk br (by simp)];exact hb,Or.inr ⟨g,o,cap,h1,h2,h3,h4,rfl,?_,fun j u hu=>by rw [World.cell?_of_block (a:=⟨g,o+j,none⟩) hg];exact h6 j u hu⟩⟩
   have:w.heap[g]?=some w.heap[g]:=Array.getElem?_eq_getElem h5
   exact jU (hg.trans this)
 ·rintro w F ⟨v,hb,h⟩ b OY
  rcases h with ⟨h1,h2,rfl⟩|⟨g,o,cap,h1,h2,h3,h4,rfl,h5,h6⟩
  ·simp at OY;subst OY;exact jU hb
  ·simp at OY
   rcases OY with rfl | rfl
   ·exact jU hb
   ·exact h5
def aS (l:List UInt8) (e:Int) (n:Nat):List UInt8×List UInt8×Int:=if e≠0 then ([],l,e) else if l.length < n then ([],[],2) else (l.take n,l.drop n,0)
def rX (br:Nat) (t:List UInt8×List UInt8×Int) (i:Nat) (F0:List Nat) (w0:World) (R:List az) (e:Ending) (w':World):Prop:=
 ∃ A c,e=.returned (.slice A t.1.length c)∧(A=none→c=0∧t.1=[])∧Src w' A t.1.length 1 (eD t.1)∧In F0 w0 w' (R.set i (qL br t.2.1 t.2.2))
theorem uQ (g o:Nat) (n cap i:Nat) (h1:i≤cap) (w:World):(Instr.slice 23 (.slice (some ⟨g,o,none⟩) n cap) none (some (.int .i64 i)) none).run Tryz.prog w=.ok (.slice (some ⟨g,o,none⟩) i cap) w:=
 Cm Tryz.underlying23 infoByte g o n cap i h1 w
theorem LK {br:Nat} {e:Int} (h:In F0 w0 w R) (i:Nat) (hA:R[i]?=some (qL br l e)) (n:Nat) (hn:n≤100000000) :
  Calls Tryz.prog 244 #[.pointer (some ⟨br,0,none⟩),.int .i64 n] w (rX br (aS l e n) i F0 w0 R):=by
 have hi:=(List.getElem?_eq_some_iff.1 hA).1
 obtain⟨F,v,hb,hv⟩:=h.get i hA
 have c1:w.cell? ⟨br,1,none⟩=some (.int .i64 e):=cell_of hb rfl
 have c0:w.cell? ⟨br,0,none⟩=some v:=cell_of hb rfl
 have f0:w.frozen? ⟨br,0,none⟩=false:=aL hb
 have f1:w.frozen? ⟨br,1,none⟩=false:=aL hb
 by_cases he:e=0
 ·subst he
  by_cases hlt:l.length < n
  ·have HE:Hid (rX br (aS l 0 n) i F0 w0 R (.returned (.slice none 0 0)) ((w.setCell ⟨br,1,none⟩ (.int .i64 2)).setCell ⟨br,0,none⟩ (.slice none 0 0))):=Lib.hid (by
    have e1:aS l 0 n=([],[],2):=by unfold aS;simp [hlt]
    rw [e1]
    refine⟨none,0,rfl,fun _=>⟨rfl,rfl⟩,Src.nil _ _ _,h.step i hA (qL.aA _ _ _) fun F hF=>?_⟩
    obtain⟨v',hb',hv'⟩:=hF
    rw [hb] at hb';cases hb'
    have hbr:br∈F:=by rcases hv' with ⟨_,_,rfl⟩|⟨g,o,cap,_,_,_,_,rfl,_⟩ <;> simp
    refine⟨[br],⟨.slice none 0 0,?_,Or.inl ⟨rfl,rfl,rfl⟩⟩,fun b hb2=>by simp at hb2;subst hb2;exact Or.inl hbr,?_⟩
    ·have:=aR (o:=0) (v:=.slice none 0 0) (aR (o:=1) (v:=.int .i64 2) hb)
     simpa using this
    ·exact ((Mod.refl F w).setCell (Or.inl hbr) _).setCell (Or.inl hbr) _)
   have hlen:∃ a cap,v=.slice a l.length cap:=by
    rcases hv with ⟨rfl,rfl,_⟩|⟨g,o,cap,rfl,_⟩
    ·exact⟨none,0,rfl⟩
    ·exact⟨_,_,rfl⟩
   obtain⟨a,cap,rfl⟩:=hlen
   have d0:(w.setCell ⟨br,1,none⟩ (.int .i64 2)).cell? ⟨br,0,none⟩=some (.slice a l.length cap):=cell_of (aR (o:=1) (v:=.int .i64 2) hb) rfl
   have g0:(w.setCell ⟨br,1,none⟩ (.int .i64 2)).frozen? ⟨br,0,none⟩=false:=aL (aR (o:=1) (v:=.int .i64 2) hb)
   clear h hA hb hv hi
   have hlt':(l.length:Int) < (n:Int):=by omega
   clear hlt
   go_enter Tryz.func244,Tryz.ntmps244
   go_wp2_with fail
   go_ret
   exact HE.out
  ·have e1:aS l 0 n=(l.take n,l.drop n,0):=by unfold aS;simp [hlt]
   have hge:n≤l.length:=by omega
   rcases hv with ⟨rfl,rfl,_⟩|⟨g,o,cap,rfl,h1,h2,h3,rfl,h4,h5⟩
   ·obtain rfl:n=0:=by simpa using hge
    have HE:Hid (rX br (aS [] 0 0) i F0 w0 R (.returned (.slice none 0 0)) (w.setCell ⟨br,0,none⟩ (.slice none 0 0))):=Lib.hid (by
     rw [e1]
     refine⟨none,0,rfl,fun _=>⟨rfl,rfl⟩,Src.nil _ _ _,h.step i hA (qL.aA _ _ _) fun F hF=>?_⟩
     obtain⟨v',hb',hv'⟩:=hF
     rw [hb] at hb';cases hb'
     have hbr:br∈F:=by rcases hv' with ⟨_,_,rfl⟩|⟨g,o,cap,_,_,_,_,rfl,_⟩ <;> simp
     refine⟨[br],⟨.slice none 0 0,?_,Or.inl ⟨rfl,rfl,rfl⟩⟩,fun b hb2=>by simp at hb2;subst hb2;exact Or.inl hbr,(Mod.refl F w).setCell (Or.inl hbr) _⟩
     have:=aR (o:=0) (v:=.slice none 0 0) hb
     simpa using this)
    have r1:(Instr.slice 23 (.slice none 0 0) none (some (.int .i64 0)) none).run Tryz.prog w=.ok (.slice none 0 0) w:=ng Tryz.underlying23 infoByte 0 0 0 (Nat.le_refl _) w
    have r2:(Instr.slice 23 (.slice none 0 0) (some (.int .i64 0)) none none).run Tryz.prog w=.ok (.slice none 0 0) w:=qM Tryz.underlying23 infoByte none 0 0 0 (Nat.le_refl _) w
    clear h hA hb hi hlt hge
    go_enter Tryz.func244,Tryz.ntmps244
    go_wp2_with fail
    go_ret
    exact HE.out
   ·have HE:Hid (rX br (aS l 0 n) i F0 w0 R (.returned (.slice (some ⟨g,o,none⟩) n cap)) (w.setCell ⟨br,0,none⟩ (.slice (Ef (some ⟨g,o,none⟩) cap n 1) (l.length - n:Nat) (cap - n)))):=Lib.hid (by
     rw [e1]
     have hln:(l.take n).length=n:=by rw [List.length_take];omega
     have hset:=fun (u:Value)=>aR (o:=0) (v:=u) hb
     have hoth:∀ (u:Value) k,(w.setCell ⟨br,0,none⟩ u).cell? ⟨g,k,none⟩=w.cell? ⟨g,k,none⟩:=fun u k=>World.cell?_of_block (pU (a:=⟨br,0,none⟩) (v:=u) h3)
     refine⟨some ⟨g,o,none⟩,cap,by rw [hln],(fun e=>by cases e),⟨by rw [il,Nat.mul_one],fun h0=>⟨_,rfl,fun j u hu=>?_⟩⟩,h.step i hA (qL.aA _ _ _) fun F hF=>?_⟩
     ·rw [lv,hoth]
      rw [← Ab,List.getElem?_take] at hu
      split at hu
      ·exact h5 j u hu
      ·cases hu
     ·obtain⟨v',hb',hv'⟩:=hF
      rw [hb] at hb';cases hb'
      have hFF:F=[br,g]:=by
       rcases hv' with ⟨e,_⟩|⟨g',o',cap',e,_,_,_,rfl,_⟩
       ·cases e
       ·simp only [Value.slice.injEq,Option.some.injEq,Addr.mk.injEq] at e;rw [e.1.1]
      subst hFF
      have hcell:∀ (k j:Nat) (u:Value),(eD (l.drop n))[j]?=some u→w.cell? ⟨g,o+(n+j),none⟩=some u:=fun k j u hu=>by
       rw [← Ac,List.getElem?_drop] at hu
       exact h5 _ u hu
      refine⟨[br,g],⟨_,hset _,Or.inr ?_⟩,uG.refl _ _,(Mod.refl _ w).setCell (Or.inl (by simp)) _⟩
      unfold Ef
      by_cases hc:cap=n
      ·refine⟨g,o,cap - n,by rw [if_pos hc,List.length_drop],by rw [List.length_drop];omega,by omega,h3,rfl,by simpa using h4,fun j u hu=>?_⟩
       rw [← Ac,List.getElem?_drop] at hu
       have:n+j < (eD l).length:=(List.getElem?_eq_some_iff.1 hu).1
       rw [il] at this;omega
      ·refine⟨g,o+n,cap - n,by rw [if_neg hc,List.length_drop];simp [lv],by rw [List.length_drop];omega,by omega,h3,rfl,by simpa using h4,fun j u hu=>?_⟩
       rw [hoth,Nat.add_assoc]
       exact hcell 0 j u hu)
    have r1:=uQ g o l.length cap n (by omega) w
    have r2:=qM Tryz.underlying23 infoByte (some ⟨g,o,none⟩) l.length cap n hge w
    have hge':(n:Int)≤(l.length:Int):=by omega
    clear h hA hb hi hlt h5 e1
    generalize Ef (some ⟨g,o,none⟩) cap n 1=sa at *
    go_enter Tryz.func244,Tryz.ntmps244
    go_wp2_with fail
    go_ret
    exact HE.out
 ·have HE:Hid (rX br (aS l e n) i F0 w0 R (.returned (.slice none 0 0)) w):=Lib.hid (by
   have e1:aS l e n=([],l,e):=by unfold aS;rw [if_pos he]
   rw [e1]
   refine⟨none,0,rfl,fun _=>⟨rfl,rfl⟩,Src.nil _ _ _,?_⟩
   rwa [pV hA])
  have q:(e != 0)=true:=by rw [bne_iff_ne];exact he
  clear h hA hb hv hi he
  go_enter Tryz.func244,Tryz.ntmps244
  go_wp2_with fail
  go_ret
  exact HE.out
def WW (bs:List UInt8) (n k:Value):Prop:=∃ i:Nat,i≤bs.length∧k=.int .i64 i∧n=.int .u64 (num (bs.take i))
theorem TY {m:Nat} (x:UInt8) (hm:m < 72057594037927936):bits .or .u64 ((m:Int) * 256) (x.toNat:Int)=((m * 256+x.toNat:Nat):Int):=by
 have hx:=x.toNat_lt
 rw [show ((m:Int) * 256)=((m * 256:Nat):Int) by omega]
 rw [bits_or_u64_nat _ _ (by omega) (by omega)]
 congr 1
 have e:m * 256=m <<< 8:=by rw [Nat.shiftLeft_eq]
 rw [e,← Nat.shiftLeft_add_eq_or_of_lt (by omega),← e]
def LM (br:Nat) (t:List UInt8×List UInt8×Int) (i:Nat) (F0:List Nat) (w0:World) (R:List az) (e:Ending) (w':World):Prop:=
 e=.returned (.int .u64 (num t.1))∧In F0 w0 w' (R.set i (qL br t.2.1 t.2.2))
theorem GK (bs:List UInt8) (i:Nat) (h:bs.length≤8) (hi:i < bs.length):num (bs.take i) < 72057594037927936:=by
 have h1:=xE (bs.take i)
 have h2:(bs.take i).length≤7:=by rw [List.length_take];omega
 have h3:256 ^ (bs.take i).length≤256 ^ 7:=Nat.pow_le_pow_right (by omega) h2
 omega
theorem eY (l:List UInt8) (e:Int) (n:Nat):(aS l e n).1.length≤n:=by
 unfold aS;split
 ·simp
 ·split
  ·simp
  ·rw [List.length_take];omega
theorem En {br:Nat} {e:Int} (h:In F0 w0 w R) (i:Nat) (hA:R[i]?=some (qL br l e)) (n:Nat) (hn:n≤8) :
  Calls Tryz.prog 228 #[.pointer (some ⟨br,0,none⟩),.int .i64 n] w (LM br (aS l e n) i F0 w0 R):=by
 have HC:=Lib.hid (LK h i hA n (by omega))
 have hl8:(aS l e n).1.length≤8:=Nat.le_trans (eY l e n) hn
 clear h hA
 go_enter Tryz.func228,Tryz.ntmps228
 go_wp2_with fail
 refine HC.out.mono ?_
 rintro e' w1 ⟨A,c,rfl,-,hs,ho⟩
 have HF:Hid (LM br (aS l e n) i F0 w0 R (.returned (.int .u64 (num (aS l e n).1))) w1):=Lib.hid ⟨rfl,ho⟩
 have SS:=Lib.hid hs
 clear hs ho HC
 generalize (aS l e n)=t at *
 obtain⟨bs,l',e''⟩:=t
 simp only at hl8 SS HF ⊢
 go_wp2_with fail
 go_loop [5,12] (WW bs) (fun _ k=>bs.length - (intOf k).toNat)
 case atStart=>exact⟨0,Nat.zero_le _,rfl,rfl⟩
 case round=>
  obtain⟨j,hj,rfl,rfl⟩:=hrel
  by_cases hlt:j < bs.length
  ·obtain⟨x,hx⟩:∃ x,bs[j]?=some x:=⟨bs[j],List.getElem?_eq_getElem hlt⟩
   obtain⟨ad,rfl,hc⟩:=SS.out.at' (by omega)
   have c0:=hc j (.int .u8 x.toNat) (by simp [eD,hx])
   have hlt':(j:Int) < (bs.length:Int):=by omega
   have hm:=GK bs j hl8 hlt
   have HX:Hid (num (bs.take (j+1))=num (bs.take j) * 256+x.toNat):=Lib.hid (by rw [List.take_add_one,hx];exact GH _ _)
   have hq:=TY x hm
   have hxl:=x.toNat_lt
   clear hx hc
   generalize num (bs.take j)=m at *
   generalize x.toNat=xn at *
   have q1:IntKind.u64.wrap ((m:Int) * 256)=((m * 256:Nat):Int):=by rw [IntKind.wrap_u64];omega
   go_wp2_with fail
   go_round
   case rel=>exact⟨j+1,by omega,by go_num,by rw [HX.out];go_num⟩
   case measure=>simp [intOf];omega
  ·have hjl:j=bs.length:=by omega
   subst hjl
   rw [List.take_length]
   go_wp2_with fail
   go_ret
   exact HF.out
section
variable {F0:List Nat} {w0 w:World} {R:List az} {l:List UInt8} {br:Nat} {e:Int}
theorem gI {bs:List UInt8} {k:Nat} (h:bs.length≤k):num bs < 256 ^ k:=Nat.lt_of_lt_of_le (xE bs) (Nat.pow_le_pow_right (by omega) h)
def Ae (v:Value) (br:Nat) (t:List UInt8×List UInt8×Int) (i:Nat) (F0:List Nat) (w0:World) (R:List az) (e:Ending) (w':World):Prop:=
 e=.returned v∧In F0 w0 w' (R.set i (qL br t.2.1 t.2.2))
theorem Pt (h:In F0 w0 w R) (i:Nat) (hA:R[i]?=some (qL br l e)) :
  Calls Tryz.prog 226 #[.pointer (some ⟨br,0,none⟩)] w (Ae (.int .i64 (num (aS l e 1).1)) br (aS l e 1) i F0 w0 R):=by
 have HC:=Lib.hid (En h i hA 1 (by omega))
 have hlt:=gI (eY l e 1)
 clear h hA
 generalize aS l e 1=t at *
 have hlt':num t.1 < 256:=by simpa using hlt
 clear hlt
 go_enter Tryz.func226,Tryz.ntmps226
 go_wp2_with fail
 refine HC.out.mono ?_
 rintro e' w1 ⟨rfl,ho⟩
 have HO:=Lib.hid ho
 clear ho HC
 generalize num t.1=m at *
 go_wp2_with fail
 go_ret
 exact⟨rfl,HO.out⟩
theorem Eo (h:In F0 w0 w R) (i:Nat) (hA:R[i]?=some (qL br l e)) :
  Calls Tryz.prog 171 #[.pointer (some ⟨br,0,none⟩)] w (Ae (.int .i64 (num (aS l e 2).1)) br (aS l e 2) i F0 w0 R):=by
 have HC:=Lib.hid (En h i hA 2 (by omega))
 have hlt:=gI (eY l e 2)
 clear h hA
 generalize aS l e 2=t at *
 have hlt':num t.1 < 65536:=by simpa using hlt
 clear hlt
 go_enter Tryz.func171,Tryz.ntmps171
 go_wp2_with fail
 refine HC.out.mono ?_
 rintro e' w1 ⟨rfl,ho⟩
 have HO:=Lib.hid ho
 clear ho HC
 generalize num t.1=m at *
 go_wp2_with fail
 go_ret
 exact⟨rfl,HO.out⟩
theorem rY (h:In F0 w0 w R) (i:Nat) (hA:R[i]?=some (qL br l e)) :
  Calls Tryz.prog 170 #[.pointer (some ⟨br,0,none⟩)] w (Ae (.int .u32 (num (aS l e 4).1)) br (aS l e 4) i F0 w0 R):=by
 have HC:=Lib.hid (En h i hA 4 (by omega))
 have hlt:=gI (eY l e 4)
 clear h hA
 generalize aS l e 4=t at *
 have hlt':num t.1 < 4294967296:=by simpa using hlt
 clear hlt
 go_enter Tryz.func170,Tryz.ntmps170
 go_wp2_with fail
 refine HC.out.mono ?_
 rintro e' w1 ⟨rfl,ho⟩
 have HO:=Lib.hid ho
 clear ho HC
 generalize num t.1=m at *
 go_wp2_with fail
 go_ret
 exact⟨rfl,HO.out⟩
theorem aap:256 ^ 8=18446744073709551616:=by rfl
def rR (m:Nat):Int:=wrap64 m
theorem Pv {v v':Value} (h:v=v'):Ending.returned v=Ending.returned v':=by rw [h]
theorem WX (h:In F0 w0 w R) (i:Nat) (hA:R[i]?=some (qL br l e)) :
  Calls Tryz.prog 276 #[.pointer (some ⟨br,0,none⟩)] w (Ae (.int .i64 (rR (num (aS l e 8).1))) br (aS l e 8) i F0 w0 R):=by
 have HC:=Lib.hid (En h i hA 8 (by omega))
 have hlt:=gI (eY l e 8)
 clear h hA
 generalize aS l e 8=t at *
 have hlt':num t.1 < 18446744073709551616:=aap ▸ hlt
 clear hlt
 go_enter Tryz.func276,Tryz.ntmps276
 go_wp2_with fail
 refine HC.out.mono ?_
 rintro e' w1 ⟨rfl,ho⟩
 have HO:=Lib.hid ho
 clear ho HC
 have HS:Hid (rR (num t.1)=wrap64 (num t.1)):=Lib.hid rfl
 generalize num t.1=m at *
 go_wp2_with fail
 go_ret
 exact⟨by rw [HS.out];exact Pv rfl,HO.out⟩
theorem LP (h:In F0 w0 w R) {A:Option Addr} {c:Nat} {bs:List UInt8} (hn:A=none→c=0∧bs=[]) (hs:Src w A bs.length 1 (eD bs)) (hl:bs.length≤100000000) :
  Calls Tryz.prog 132 #[.slice A bs.length c] w fun e w'=>∃ v,e=.returned v∧In F0 w0 w' (ay 5 1 v bs.length (eD bs)::R):=by
 cases A with
 | none=>obtain⟨rfl,rfl⟩:=hn rfl;exact uL h
 | some ad=>exact uK h hs hl
def LQ (br:Nat) (t:List UInt8×List UInt8×Int) (i:Nat) (F0:List Nat) (w0:World) (R:List az) (e:Ending) (w':World):Prop:=
 ∃ v,e=.returned v∧In F0 w0 w' (ay 5 1 v t.1.length (eD t.1)::R.set i (qL br t.2.1 t.2.2))
theorem Pw (h:In F0 w0 w R) (i:Nat) (hA:R[i]?=some (qL br l e)) (n:Nat) (hn:n≤100000000) :
  Calls Tryz.prog 225 #[.pointer (some ⟨br,0,none⟩),.int .i64 n] w (LQ br (aS l e n) i F0 w0 R):=by
 have HC:=Lib.hid (LK h i hA n hn)
 have hlt:=eY l e n
 clear h hA
 generalize aS l e n=t at *
 go_enter Tryz.func225,Tryz.ntmps225
 go_wp2_with fail
 refine HC.out.mono ?_
 rintro e' w1 ⟨A,c,rfl,hn,hs,ho⟩
 have H2:=Lib.hid (LP (c:=c) ho hn hs (by omega))
 clear ho hn hs HC
 go_wp2_with fail
 refine H2.out.mono ?_
 rintro e' w2 ⟨v,rfl,ho⟩
 have HF:Hid (LQ br t i F0 w0 R (.returned v) w2):=Lib.hid ⟨v,rfl,ho⟩
 clear ho H2
 go_wp2_with fail
 go_ret
 exact HF.out
theorem TZ (h:In F0 w0 w R) (i:Nat) (hA:R[i]?=some (qL br l e)):Calls Tryz.prog 289 #[.pointer (some ⟨br,0,none⟩)] w fun e w'=>e=.returned (.int .i64 l.length)∧w'=w:=by
 obtain⟨F,v,hb,hv⟩:=h.get i hA
 have c0:w.cell? ⟨br,0,none⟩=some v:=cell_of hb rfl
 have hlen:∃ a cap,v=.slice a l.length cap:=by
  rcases hv with ⟨rfl,rfl,_⟩|⟨g,o,cap,rfl,_⟩
  ·exact⟨none,0,rfl⟩
  ·exact⟨_,_,rfl⟩
 obtain⟨a,cap,rfl⟩:=hlen
 clear h hA hb hv
 go_enter Tryz.func289,Tryz.ntmps289
 go_wp2_with fail
 go_ret
 exact⟨rfl,rfl⟩
def jQ (l:List UInt8) (e:Int):Int:=if e=0 then (if l=[] then 0 else 3) else e
theorem uR (h:In F0 w0 w R) (i:Nat) (hA:R[i]?=some (qL br l e)) (hl:l.length≤100000000):Calls Tryz.prog 172 #[.pointer (some ⟨br,0,none⟩)] w fun e' w'=>e'=.returned (.int .i64 (jQ l e))∧w'=w:=by
 obtain⟨F,v,hb,hv⟩:=h.get i hA
 have c0:w.cell? ⟨br,0,none⟩=some v:=cell_of hb rfl
 have c1:w.cell? ⟨br,1,none⟩=some (.int .i64 e):=cell_of hb rfl
 have hlen:∃ a cap,v=.slice a l.length cap:=by
  rcases hv with ⟨rfl,rfl,_⟩|⟨g,o,cap,rfl,_⟩
  ·exact⟨none,0,rfl⟩
  ·exact⟨_,_,rfl⟩
 obtain⟨a,cap,rfl⟩:=hlen
 clear h hA hb hv
 by_cases he:e=0
 ·subst he
  by_cases hn:l=[]
  ·have HE:Hid (jQ l 0=0):=Lib.hid (by simp [jQ,hn])
   have h0:decide (0 < l.length)=false:=by simp [hn]
   clear hn
   generalize l.length=n at *
   go_enter Tryz.func172,Tryz.ntmps172
   go_wp2_with fail
   go_ret
   exact⟨by rw [HE.out];rfl,rfl⟩
  ·have HE:Hid (jQ l 0=3):=Lib.hid (by simp [jQ,hn])
   have h0:decide (0 < l.length)=true:=by simpa using List.length_pos_iff.2 hn
   clear hn
   generalize l.length=n at *
   go_enter Tryz.func172,Tryz.ntmps172
   go_wp2_with fail
   go_ret
   exact⟨by rw [HE.out];rfl,rfl⟩
 ·have HE:Hid (jQ l e=e):=Lib.hid (by simp [jQ,he])
  have q:(e == 0)=false:=beq_eq_false_iff_ne.2 he
  clear he
  go_enter Tryz.func172,Tryz.ntmps172
  go_wp2_with fail
  go_ret
  exact⟨by rw [HE.out];rfl,rfl⟩
theorem Na {g:Nat} {v:Value} {bs:List UInt8} (h:In F0 w0 w (Cells g #[v,.int .i64 0] 265::ay 5 1 v bs.length (eD bs)::R)):In F0 w0 w (qL g bs 0::R):=by
 have h1:=In.join (A1:=[Cells g #[v,.int .i64 0] 265,ay 5 1 v bs.length (eD bs)]) (R:=R) h
 refine h1.imp (A':=qL g bs 0) 0 rfl (qL.aA _ _ _) fun F hF=>?_
 obtain⟨F1,F2,⟨rfl,h2⟩,⟨F3,F4,h3,rfl,_,rfl⟩,h4,rfl⟩:=hF
 obtain⟨a,cap,rfl,k1,k2,k3⟩:=h3.shape
 refine⟨_,h2,?_⟩
 obtain⟨h5,h6⟩:=h3
 rcases h6.2 with h7 | ⟨g',c,cur,e,_,hb,_⟩
 ·left
  refine⟨h7.1,List.length_eq_zero_iff.1 h7.2,?_⟩
  rw [h5,h7.1];simp [Value.ownBlock]
 ·right
  cases e
  refine⟨g',0,cap,rfl,k1,k2,?_,?_,jU hb,fun j u hu=>?_⟩
  ·rintro rfl
   exact h4 g' (by simp) (by rw [h5];simp [Value.ownBlock])
  ·rw [h5];simp [Value.ownBlock]
  ·obtain⟨b,e,hc⟩:=k3 j u hu
   cases e
   rw [Nat.zero_add];exact hc
theorem JA (h:In F0 w0 w R) {A:Option Addr} {c:Nat} {bs:List UInt8} (hn:A=none→c=0∧bs=[]) (hs:Src w A bs.length 1 (eD bs)) (hl:bs.length≤100000000) :
  Calls Tryz.prog 169 #[.slice A bs.length c] w fun e w'=>∃ br,e=.returned (.pointer (some ⟨br,0,none⟩))∧In F0 w0 w' (qL br bs 0::R):=by
 have HC:=Lib.hid (LP (c:=c) h hn hs hl)
 clear h hn hs
 go_enter Tryz.func169,Tryz.ntmps169
 go_wp2_with fail
 refine HC.out.mono ?_
 rintro e' w1 ⟨v,rfl,ho⟩
 obtain⟨F,hr⟩:=ho.get 0 rfl
 obtain⟨a,cap,rfl,-,-,-⟩:=hr.shape
 have h2:=Na (ho.cells #[.slice a bs.length cap,.int .i64 0] 265)
 have H2:=Lib.hid h2
 clear ho h2 hr HC
 go_wp2_with fail
 go_ret
 exact⟨_,rfl,H2.out⟩
theorem GL (h:In F0 w0 w R) {ad:Addr} {n c:Nat} {l:List UInt8} (hs:Src w (some ad) n 1 (eD l)) (hn:n≤100000000) :
  Calls Tryz.prog 227 #[.slice (some ad) n c] w fun e w'=>∃ v,e=.returned v∧In F0 w0 w' (ay 5 1 v n (eD l)::R):=by
 have HH:=Lib.hid h
 have HS:=Lib.hid hs
 clear h hs
 have hq:∀ (w:World) (a:Option Addr) (n c n' c':Nat),(binOp .eql 23 (.slice a n c) (.slice none n' c')).run Tryz.prog w=.ok (.bool a.isNone) w:=fun w a n c n' c'=>Lib.run_eql_slice_nil w _ _ a n c n' c' Tryz.underlying23
 go_enter Tryz.func227,Tryz.ntmps227
 go_wp2_with (at_builtin;refine iP rfl ((HH.out.cells #[] 5).row0 (k:=1) 0 rfl) 0 rfl (.tmp 5) (.tmp 6) 23 (by rfl) Tryz.underlying23 infoByte (by decide) (by decide) (by rfl) (by rfl) (tN HS.out _) (vP _) (by omega) ?_)
 intro v' w3 ho hg
 have HO:=Lib.hid ho
 clear ho hg
 go_wp2_with fail
 go_ret
 exact⟨_,rfl,HO.out⟩
end
end
structure Bk where
 id:Int
 addr:Int
 weight:Int
deriving DecidableEq,Inhabited
structure Rec where
 kind:Int
 fl:Fl
 gen:Int
 ax:List Bk
 bk:Int
 till:Int
 count:Int
deriving DecidableEq,Inhabited
def eH:rU:=⟨0,0,0,0,0⟩
def aQ:Fl:=⟨eH,0,0,0⟩
def aT:Rec:=⟨0,aQ,0,[],0,0,0⟩
def gu (b:Bk):Bool:=decide (0≤b.id∧b.id≤65535) && decide (1≤b.weight∧b.weight≤10)
def bT (r:Rec):Bool:=
 if r.kind=1 then decide (uM r.fl)
 else if r.kind=2 then decide (rW r.fl.t)
 else if r.kind=3 then decide (0≤r.gen∧r.gen≤1000000) && (decide (r.ax.length≤16) && r.ax.all gu)
 else if r.kind=4 then decide (0≤r.bk∧r.bk≤65535) && decide (0≤r.till∧r.till≤1099511627776)
 else if r.kind=5 then decide (0≤r.bk∧r.bk≤65535)
 else if r.kind=6 then decide (0≤r.count∧r.count≤1000000)
 else false
def aO (r:Rec):Rec:=
 if r.kind=1 then ⟨1,r.fl,0,[],0,0,0⟩
 else if r.kind=2 then ⟨2,⟨r.fl.t,0,0,0⟩,0,[],0,0,0⟩
 else if r.kind=3 then ⟨3,aQ,r.gen,r.ax,0,0,0⟩
 else if r.kind=4 then ⟨4,aQ,0,[],r.bk,r.till,0⟩
 else if r.kind=5 then ⟨5,aQ,0,[],r.bk,0,0⟩
 else if r.kind=6 then ⟨6,aQ,0,[],0,0,r.count⟩
 else ⟨r.kind,aQ,0,[],0,0,0⟩
def dQ (v:Int):Bool:=decide (1≤v∧v≤3)
def oC (v:Int) (f:Fl):Fl:=⟨f.t,f.bk,if v < 2 then 0 else f.gen,if v < 3 then 0 else f.seen⟩
def fF (v:Int) (b:Bk):Bk:=if v < 2 then ⟨b.id,b.addr,1⟩ else b
def dM (r:Rec) (v:Int):Rec:=
 if dQ v=false then aT else
 ⟨(aO r).kind,if r.kind=1 then oC v (aO r).fl else (aO r).fl,(aO r).gen,(aO r).ax.map (fF v),(aO r).bk,(aO r).till,(aO r).count⟩
def LU (v:Int) (b:Bk):List UInt8:=be (u64 b.id) 2++be (u64 b.addr) 4++(if 2≤v then be (u64 b.weight) 1 else [])
def mP (v:Int) (l:List Bk):List UInt8:=(l.map (LU v)).flatten
def dA (r:Rec) (v:Int):List UInt8:=
 if r.kind=1 then oz r.fl.t++be (u64 r.fl.bk) 2++(if 2≤v then be (u64 r.fl.gen) 4 else [])++(if 3≤v then be (u64 r.fl.seen) 8 else [])
 else if r.kind=2 then oz r.fl.t
 else if r.kind=3 then be (u64 r.gen) 4++be (u64 r.ax.length) 1++mP v r.ax
 else if r.kind=4 then be (u64 r.bk) 2++be (u64 r.till) 8
 else if r.kind=5 then be (u64 r.bk) 2
 else if r.kind=6 then be (u64 r.count) 4
 else []
def dh (r:Rec) (v:Int):cB×Int:=
 if dQ v=false then (jc,10) else if bT r=false then (jc,1) else (⟨r.kind.toNat,v.toNat,dA r v⟩,0)
/-! ### What bytes say -/
abbrev pE:=List UInt8×Int
def kS (n:Nat) (s:pE):Nat:=num (aS s.1 s.2 n).1
def gJ (n:Nat) (s:pE):pE:=(aS s.1 s.2 n).2
def yE (s:pE):rU:=⟨kS 4 s,kS 4 (gJ 4 s),kS 1 (gJ 4 (gJ 4 s)),kS 2 (gJ 1 (gJ 4 (gJ 4 s))),kS 2 (gJ 2 (gJ 1 (gJ 4 (gJ 4 s))))⟩
def jV (s:pE):rU×Bool×pE:=
 if s.1.length < 13 then (eH,false,gJ 13 s)
 else if rW (yE s) then (yE s,true,gJ 2 (gJ 2 (gJ 1 (gJ 4 (gJ 4 s)))))
 else (eH,false,gJ 2 (gJ 2 (gJ 1 (gJ 4 (gJ 4 s)))))
def vV (v:Int) (s:pE):Fl×Bool×pE:=
 let t:=jV s
 let s1:=gJ 2 t.2.2
 let s2:=if 2≤v then gJ 4 s1 else s1
 let s3:=if 3≤v then gJ 8 s2 else s2
 (⟨t.1,kS 2 t.2.2,if 2≤v then (kS 4 s1:Int) else 0,if 3≤v then rR (kS 8 s2) else 0⟩,t.2.1,s3)
def vW (v:Int) (s:pE):Bk×pE:=
 (⟨kS 2 s,kS 4 (gJ 2 s),if 2≤v then (kS 1 (gJ 4 (gJ 2 s)):Int) else 1⟩,if 2≤v then gJ 1 (gJ 4 (gJ 2 s)) else gJ 4 (gJ 2 s))
def rdBks (v:Int):Nat→pE→List Bk×pE
 | 0,s=>([],s)
 | n+1,s=>((rdBks v n s).1++[(vW v (rdBks v n s).2).1],(vW v (rdBks v n s).2).2)
def fO (kind v:Int) (s:pE):Rec×Bool×pE:=
 if kind=1 then (⟨1,(vV v s).1,0,[],0,0,0⟩,(vV v s).2.1,(vV v s).2.2)
 else if kind=2 then (⟨2,⟨(jV s).1,0,0,0⟩,0,[],0,0,0⟩,(jV s).2.1,(jV s).2.2)
 else if kind=3 then
  let b:=rdBks v (min (kS 1 (gJ 4 s)) 17) (gJ 1 (gJ 4 s))
  (⟨3,aQ,kS 4 s,b.1,0,0,0⟩,true,b.2)
 else if kind=4 then (⟨4,aQ,0,[],kS 2 s,rR (kS 8 (gJ 2 s)),0⟩,true,gJ 8 (gJ 2 s))
 else if kind=5 then (⟨5,aQ,0,[],kS 2 s,0,0⟩,true,gJ 2 s)
 else if kind=6 then (⟨6,aQ,0,[],0,0,kS 4 s⟩,true,gJ 4 s)
 else (⟨kind,aQ,0,[],0,0,0⟩,true,s)
def jv (f:cB):Rec×Int:=
 if dQ f.aj=false then (aT,10)
 else
  let r:=fO f.kind f.aj (f.body,0)
  if r.2.1=true∧jQ r.2.2.1 r.2.2.2=0∧bT r.1=true then (r.1,0) else (aT,3)
/-! ### Its numbers fit their types -/
structure WY (b:Bk):Prop where
 i0:-9223372036854775808≤b.id
 i1:b.id < 9223372036854775808
 a0:0≤b.addr
 a1:b.addr < 4294967296
 w0:-9223372036854775808≤b.weight
 w1:b.weight < 9223372036854775808
structure mQ (r:Rec):Prop where
 t:Gy r.fl.t
 addr:∀ b∈r.ax,0≤b.addr∧b.addr < 4294967296
/-! ### Laws -/
theorem Px {n:Nat} (a b:List UInt8) (h:a.length=n):aS (a++b) 0 n=(a,b,0):=by
 unfold aS
 rw [if_neg (by simp),if_neg (by rw [List.length_append];omega),← h]
 simp
theorem WZ {n w:Nat} (h:n < 256 ^ w) (b:List UInt8):kS w (be n w++b,0)=n:=by
 unfold kS;rw [Px _ _ (aZ n w)];exact qQ h
theorem Xa (n w:Nat) (b:List UInt8):gJ w (be n w++b,0)=(b,0):=by
 unfold gJ;rw [Px _ _ (aZ n w)]
theorem Nb {n:Int} {k:Nat} (h0:0≤n) (h1:n < k) (hk:k≤18446744073709551616):u64 n < k:=(MW h0 h1 hk).1
theorem Py {n:Int} (h0:0≤n) (h1:n < 18446744073709551616):((u64 n:Nat):Int)=n:=Eh h0 h1
theorem gK {n:Int} {w:Nat} (h0:0≤n) (h1:n < (256 ^ w:Nat)) (hw:(256 ^ w:Nat)≤18446744073709551616) (b:List UInt8):((kS w (be (u64 n) w++b,0):Nat):Int)=n:=by
 rw [WZ (Nb h0 h1 hw)];exact Py h0 (by omega)
theorem kE (n:Int) (w:Nat) (b:List UInt8):gJ w (be (u64 n) w++b,0)=(b,0):=Xa _ _ _
theorem CJ {t:rU} (wt:Gy t) (mt:rW t) (b:List UInt8):jV (oz t++b,0)=(t,true,(b,0)):=by
 have e:oz t++b=be (u64 t.src) 4++(be (u64 t.dst) 4++(be (u64 t.proto) 1++(be (u64 t.ag) 2++(be (u64 t.ah) 2++b)))):=by simp [oz,List.append_assoc]
 have hl:¬ (oz t++b).length < 13:=by rw [List.length_append,iI];omega
 have hp:0≤t.proto∧t.proto < 256:=by rcases mt.proto with h | h <;> rw [h] <;> decide
 have k1:=mt.Zi;have k2:=mt.sp1;have k3:=mt.Zj;have k4:=mt.dp1
 have ht:yE (oz t++b,0)=t:=by
  unfold yE
  rw [e]
  simp only [kE]
  rw [gK wt.s0 (by have:=wt.s1;simpa using this) (by decide),gK wt.d0 (by have:=wt.d1;simpa using this) (by decide),gK hp.1 (by simpa using hp.2) (by decide),gK k1 (by simp;omega) (by decide),gK k3 (by simp;omega) (by decide)]
 unfold jV
 rw [if_neg hl,ht,if_pos mt,e]
 simp only [kE]
theorem Xb {v:Int} {b:Bk} (hb:gu b=true) (ha:0≤b.addr∧b.addr < 4294967296) (r:List UInt8):vW v (LU v b++r,0)=(fF v b,(r,0)):=by
 simp only [gu,Bool.and_eq_true,decide_eq_true_eq] at hb
 obtain⟨⟨b1,b2⟩,b3,b4⟩:=hb
 unfold vW LU fF
 by_cases hv:2≤v
 ·simp only [if_pos hv,List.append_assoc,kE]
  rw [gK b1 (by simp;omega) (by decide),gK ha.1 (by simpa using ha.2) (by decide),gK (by omega) (by simp;omega) (by decide),if_neg (by omega)]
 ·simp only [if_neg hv,List.append_assoc,List.nil_append,kE]
  rw [gK b1 (by simp;omega) (by decide),gK ha.1 (by simpa using ha.2) (by decide),if_pos (by omega)]
theorem Nc (v:Int) (l:List Bk) (b:Bk):mP v (l++[b])=mP v l++LU v b:=by simp [mP]
theorem Af {v:Int} {l:List Bk} (hl:∀ b∈l,gu b=true∧0≤b.addr∧b.addr < 4294967296) (r:List UInt8) :
  ∀ k,k≤l.length→rdBks v k (mP v l++r,0)=((l.take k).map (fF v),(mP v (l.drop k)++r,0))
 | 0,_=>by simp [rdBks]
 | k+1,h=>by
  obtain⟨x,hx⟩:∃ x,l[k]?=some x:=⟨l[k],List.getElem?_eq_getElem h⟩
  have hd:l.drop k=x::l.drop (k+1):=by
   have hx':l[k]=x:=by
    have:=List.getElem?_eq_getElem (l:=l) (i:=k) h
    rw [this] at hx;exact Option.some.inj hx
   rw [List.drop_eq_getElem_cons h,hx']
  have hm:=hl x (List.mem_of_getElem? hx)
  unfold rdBks
  rw [Af hl r k (by omega),hd]
  have e:mP v (x::l.drop (k+1))++r=LU v x++(mP v (l.drop (k+1))++r):=by simp [mP,List.append_assoc]
  simp only [e,Xb hm.1 hm.2]
  rw [List.take_add_one,hx];simp
theorem Nf {v:Int} {l:List Bk} (hl:∀ b∈l,gu b=true∧0≤b.addr∧b.addr < 4294967296):rdBks v l.length (mP v l,0)=(l.map (fF v),([],0)):=by
 have:=Af (v:=v) hl [] l.length (Nat.le_refl _)
 simpa [mP] using this
theorem GM {v:Int} {b:Bk} (h:gu b=true):gu (fF v b)=true:=by
 unfold fF;split
 ·simp only [gu,Bool.and_eq_true,decide_eq_true_eq] at h ⊢;omega
 ·exact h
theorem Ag {v:Int} {f:Fl} (h:uM f):uM (oC v f):=by
 obtain⟨h1,h2,h3,h4,h5,h6,h7⟩:=h
 refine⟨h1,h2,h3,?_,?_,?_,?_⟩ <;> (simp only [oC];split <;> omega)
theorem dS {r:Rec}:bT r=true↔(r.kind=1∧uM r.fl)∨(r.kind=2∧rW r.fl.t)∨(r.kind=3∧(0≤r.gen∧r.gen≤1000000)∧r.ax.length≤16∧∀ b∈r.ax,gu b=true) ∨
  (r.kind=4∧(0≤r.bk∧r.bk≤65535)∧0≤r.till∧r.till≤1099511627776)∨(r.kind=5∧0≤r.bk∧r.bk≤65535)∨(r.kind=6∧0≤r.count∧r.count≤1000000):=by
 unfold bT
 split
 ·rename_i h;simp [h]
 split
 ·rename_i h;simp [h]
 split
 ·rename_i h;simp [h,List.all_eq_true]
 split
 ·rename_i h;simp [h]
 split
 ·rename_i h;simp [h]
 split
 ·rename_i h;simp [h]
 ·simp;omega
theorem qU {r:Rec} {v:Int} (hv:dQ v=true):(dM r v).kind=r.kind:=by
 unfold dM;rw [if_neg (by simp [hv])]
 unfold aO
 repeat' split
 all_goals simp_all
theorem JB (r:Rec):(aO r).kind=r.kind:=by
 unfold aO
 repeat' split
 all_goals simp_all
theorem CK {r:Rec} {v:Int} (hv:dQ v=true) (h:bT r=true):bT (dM r v)=true:=by
 rw [dS] at h ⊢
 have hk:=qU (r:=r) hv
 rw [hk]
 have e:dM r v=_:=if_neg (by simp [hv])
 rcases h with ⟨h1,h2⟩|⟨h1,h2⟩|⟨h1,h2,h3,h4⟩|⟨h1,h2,h3⟩|⟨h1,h2⟩|⟨h1,h2⟩
 ·left;refine⟨h1,?_⟩;rw [e];simp only [if_pos h1,aO];exact Ag h2
 ·right;left;refine⟨h1,?_⟩;rw [e];simp [h1,aO];exact h2
 ·right;right;left;refine⟨h1,?_⟩;rw [e];simp [h1,aO];exact⟨h2,h3,fun b hb=>GM (h4 b hb)⟩
 ·right;right;right;left;refine⟨h1,?_⟩;rw [e];simp [h1,aO];exact⟨h2,h3⟩
 ·right;right;right;right;left;refine⟨h1,?_⟩;rw [e];simp [h1,aO];exact h2
 ·right;right;right;right;right;refine⟨h1,?_⟩;rw [e];simp [h1,aO];exact h2
theorem Pz:jQ [] 0=0:=rfl
theorem oK {r:Rec} {v:Int} (wr:mQ r) (hv:dQ v=true) (h:bT r=true):(dh r v).2=0∧jv (dh r v).1=(dM r v,0):=by
 have hv':1≤v∧v≤3:=by simpa [dQ] using hv
 have e0:dh r v=(⟨r.kind.toNat,v.toNat,dA r v⟩,0):=by unfold dh;rw [if_neg (by simp [hv]),if_neg (by simp [h])]
 have evn:((v.toNat:Nat):Int)=v:=Int.toNat_of_nonneg (by omega)
 have him:=CK hv h
 have ei:dM r v=⟨(aO r).kind,if r.kind=1 then oC v (aO r).fl else (aO r).fl,(aO r).gen,(aO r).ax.map (fF v),(aO r).bk,(aO r).till,(aO r).count⟩:=if_neg (by simp [hv])
 refine⟨by rw [e0],?_⟩
 suffices hs:∀ k:Int,r.kind=k→fO k v (dA r v,0)=(dM r v,true,([],0)) by
  have hk:((r.kind.toNat:Nat):Int)=r.kind:=by
   rw [dS] at h;apply Int.toNat_of_nonneg;omega
  rw [e0]
  unfold jv
  simp only [evn,hk]
  rw [if_neg (by simp [hv])]
  rw [hs _ rfl]
  rw [if_pos ⟨rfl,Pz,him⟩]
 intro k hk
 have hm:=h
 rw [dS] at hm
 rcases hm with ⟨h1,h2⟩|⟨h1,h2⟩|⟨h1,h2,h3,h4⟩|⟨h1,h2,h3⟩|⟨h1,h2⟩|⟨h1,h2⟩
 ·obtain rfl:k=1:=by omega
  have eb:dA r v=oz r.fl.t++(be (u64 r.fl.bk) 2++((if 2≤v then be (u64 r.fl.gen) 4 else [])++(if 3≤v then be (u64 r.fl.seen) 8 else []))):=by
   unfold dA;rw [if_pos h1];simp [List.append_assoc]
  have b0:=h2.b0;have b1:=h2.b1;have g0:=h2.g0;have g1:=h2.g1;have t0:=h2.t0;have t1:=h2.t1
  have hs8:∀ x:Int,0≤x→x≤1099511627776→rR (kS 8 (be (u64 x) 8,0))=x:=fun x x0 x1=>by
   have:=gK (n:=x) (w:=8) x0 (by rw [show (256 ^ 8:Nat)=18446744073709551616 from by decide];omega) (by decide) []
   rw [List.append_nil] at this
   unfold rR;rw [this];unfold wrap64;omega
  have hr8:∀ x:Int,gJ 8 (be (u64 x) 8,0)=([],0):=fun x=>by
   have:=kE x 8 []
   rwa [List.append_nil] at this
  have hr4:∀ x:Int,gJ 4 (be (u64 x) 4,0)=([],0):=fun x=>by
   have:=kE x 4 []
   rwa [List.append_nil] at this
  have hn4:∀ x:Int,0≤x→x≤1000000→((kS 4 (be (u64 x) 4,0):Nat):Int)=x:=fun x x0 x1=>by
   have:=gK (n:=x) (w:=4) x0 (by simp;omega) (by decide) []
   rwa [List.append_nil] at this
  have hr:vV v (dA r v,0)=(oC v r.fl,true,([],0)):=by
   unfold vV oC
   rw [eb,CJ wr.t h2.t]
   simp only [kE]
   rw [gK b0 (by simp;omega) (by decide)]
   by_cases c2:2≤v
   ·by_cases c3:3≤v
    ·simp only [if_pos c2,if_pos c3,kE,hr8,hs8 _ t0 t1]
     rw [gK g0 (by simp;omega) (by decide),if_neg (by omega),if_neg (by omega)]
    ·simp only [if_pos c2,if_neg c3,List.append_nil,hr4,hn4 _ g0 g1]
     rw [if_neg (by omega),if_pos (by omega)]
   ·have c3:¬ 3≤v:=by omega
    simp only [if_neg c2,if_neg c3,List.append_nil]
    rw [if_pos (by omega),if_pos (by omega)]
  unfold fO
  rw [if_pos rfl,hr,ei]
  simp [aO,h1]
 ·obtain rfl:k=2:=by omega
  have eb:dA r v=oz r.fl.t:=by unfold dA;rw [if_neg (by omega),if_pos h1]
  have hr:jV (dA r v,0)=(r.fl.t,true,([],0)):=by
   rw [eb];have:=CJ wr.t h2 [];rwa [List.append_nil] at this
  unfold fO
  rw [if_neg (by decide),if_pos rfl,hr,ei]
  simp [aO,h1]
 ·obtain rfl:k=3:=by omega
  have eb:dA r v=be (u64 r.gen) 4++(be (u64 r.ax.length) 1++mP v r.ax):=by
   unfold dA;rw [if_neg (by omega),if_neg (by omega),if_pos h1];simp [List.append_assoc]
  have hn:kS 1 (be (u64 r.ax.length) 1++mP v r.ax,0)=r.ax.length:=by
   have:=gK (n:=r.ax.length) (w:=1) (by omega) (by simp;omega) (by decide) (mP v r.ax)
   omega
  unfold fO
  rw [if_neg (by decide),if_neg (by decide),if_pos rfl,eb]
  simp only [kE,hn]
  rw [gK h2.1 (by simp;omega) (by decide),Nat.min_eq_left (by omega),Nf (fun b hb=>⟨h4 b hb,wr.addr b hb⟩),ei]
  simp [aO,h1]
 ·obtain rfl:k=4:=by omega
  have eb:dA r v=be (u64 r.bk) 2++(be (u64 r.till) 8++[]):=by
   unfold dA;rw [if_neg (by omega),if_neg (by omega),if_neg (by omega),if_pos h1];simp
  have hs8:rR (kS 8 (be (u64 r.till) 8++[],0))=r.till:=by
   have:=gK (n:=r.till) (w:=8) h3.1 (by rw [show (256 ^ 8:Nat)=18446744073709551616 from by decide];omega) (by decide) []
   unfold rR;rw [this];unfold wrap64;omega
  unfold fO
  rw [if_neg (by decide),if_neg (by decide),if_neg (by decide),if_pos rfl,eb]
  simp only [kE,hs8]
  rw [gK h2.1 (by simp;omega) (by decide),ei]
  simp [aO,h1]
 ·obtain rfl:k=5:=by omega
  have eb:dA r v=be (u64 r.bk) 2++[]:=by
   unfold dA;rw [if_neg (by omega),if_neg (by omega),if_neg (by omega),if_neg (by omega),if_pos h1];simp
  unfold fO
  rw [if_neg (by decide),if_neg (by decide),if_neg (by decide),if_neg (by decide),if_pos rfl,eb]
  simp only [kE]
  rw [gK h2.1 (by simp;omega) (by decide),ei]
  simp [aO,h1]
 ·obtain rfl:k=6:=by omega
  have eb:dA r v=be (u64 r.count) 4++[]:=by
   unfold dA;rw [if_neg (by omega),if_neg (by omega),if_neg (by omega),if_neg (by omega),if_neg (by omega),if_pos h1];simp
  unfold fO
  rw [if_neg (by decide),if_neg (by decide),if_neg (by decide),if_neg (by decide),if_neg (by decide),if_pos rfl,eb]
  simp only [kE]
  rw [gK h2.1 (by simp;omega) (by decide),ei]
  simp [aO,h1]
theorem rZ (v:Int):∀ l:List Bk,(mP v l).length≤7 * l.length
 | []=>Nat.le_refl _
 | b::l=>by
  have:=rZ v l
  have e:mP v (b::l)=LU v b++mP v l:=by simp [mP]
  rw [e,List.length_append,List.length_cons]
  have hb:(LU v b).length≤7:=by
   unfold LU
   rw [List.length_append,List.length_append,aZ,aZ]
   split
   ·rw [aZ];omega
   ·simp
  omega
theorem lD {r:Rec} (v:Int) (h:bT r=true):(dA r v).length≤200:=by
 rw [dS] at h
 unfold dA
 split
 ·simp only [List.length_append,iI,aZ];split <;> split <;> simp [aZ]
 split
 ·rw [iI];omega
 split
 ·have:=rZ v r.ax
  simp only [List.length_append,aZ]
  have:r.ax.length≤16:=by omega
  omega
 split
 ·simp [aZ]
 split
 ·simp [aZ]
 split
 ·simp [aZ]
 ·simp
theorem Ah {r:Rec} {v:Int} (h:(dh r v).2=0):jI (dh r v).1∧(dh r v).1.aj=v.toNat∧dQ v=true∧bT r=true:=by
 unfold dh at h ⊢
 cases hv:dQ v with
 | false=>rw [hv] at h;simp at h
 | true=>
  cases hm:bT r with
  | false=>rw [hv,hm] at h;simp at h
  | true=>
   simp only [Bool.true_eq_false,if_false,and_true,true_and]
   have hv':1≤v∧v≤3:=by simpa [dQ] using hv
   have hl:=lD v hm
   rw [dS] at hm
   exact⟨by show r.kind.toNat < 256;omega,by show v.toNat < 256;omega,by show (dA r v).length≤4096;omega⟩
theorem yF {α:Type} {p:Nat→α→Prop}:∀ (n:Nat),(∀ i,i < n→∃ x,p i x)→∃ l:List α,l.length=n∧∀ i (hi:i < l.length),p i l[i]
 | 0,_=>⟨[],rfl,fun i hi=>by simp at hi⟩
 | n+1,h=>by
  obtain⟨l,hl,hp⟩:=yF n (fun i hi=>h i (by omega))
  obtain⟨x,hx⟩:=h n (by omega)
  refine⟨l++[x],by simp [hl],fun i hi=>?_⟩
  by_cases hin:i < l.length
  ·rw [List.getElem_append_left hin];exact hp i hin
  ·have:i=l.length:=by simp at hi;omega
   subst this
   simpa [hl] using hx
structure aaj (w:World) (a:Option Addr) (len cap:Nat) (ss:List ByteArray):Prop where
 length:ss.length=len
 room:len≤cap
 most:cap≤maxLen
 small:∀ s∈ss,s.size≤maxLen
 at':len=0∨∃ b o,a=some ⟨b,o,none⟩∧b < w.heap.size∧∀ i (hi:i < ss.length),w.cell? ⟨b,o+i,none⟩=some (.string ss[i])
structure aak (k:IntKind) (w:World) (a:Option Addr) (len cap:Nat) (zs:List Int):Prop where
 length:zs.length=len
 room:len≤cap
 most:cap≤maxLen
 small:∀ n∈zs,(Lit.int k n).wf=true
 at':len=0∨∃ b o,a=some ⟨b,o,none⟩∧b < w.heap.size∧∀ i (hi:i < zs.length),w.cell? ⟨b,o+i,none⟩=some (.int k zs[i])
section
variable {H:Type} {enc:TypeId×Value→H} {P:Program} {w:World} {base:Nat} {spare:Nat→Bool} {held:Bool}
theorem CL {a:Addr} {v:Value} (h:w.cell? (a.add 0)=some v):a=⟨a.block,a.off,none⟩:=by
 have:a.add 0=a:=by simp [Addr.add]
 rw [this] at h
 have:=World.cell?_spot h
 cases a;simp at this;simp [this]
theorem add_plain (b o i:Nat):(⟨b,o,none⟩:Addr).add i=⟨b,o+i,none⟩:=by
 unfold Addr.add;split
 ·simp
 ·rfl
end
end Go.Proofs.YtogclkhpbjfadaaGreat
