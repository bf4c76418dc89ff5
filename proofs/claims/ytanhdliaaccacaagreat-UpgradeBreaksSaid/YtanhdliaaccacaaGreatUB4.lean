/- .. -/
import Derived.Test.YtanhdliaaccacaaGreatUB3
import Derived.Laws.Bits64b
import Derived.Test.YtanhdliaaccacaaGreatUB1
import Derived.ProofKit
import Derived.SliceStrings
import Derived.Deep.Slices
import Derived.Deep.Fields
namespace Go.Proofs.YtanhdliaaccacaaGreat
open Go.RowKit
open Go.RowKit Go.ChangeShapes Go.WideShapes Go.Deep
set_option linter.unusedVariables false
set_option maxHeartbeats 64000000
set_option maxRecDepth 100000
section
variable {F0:List Nat} {w0 w:World} {R:List ax} {bw:Nat} {l:List UInt8}
theorem PM (h:In F0 w0 w R) (i:Nat) (hA:R[i]?=some (WA bw l)) (hl:l.length≤1000000) {A:Option Addr} {c:Nat} {bs:List UInt8} (hs:Src w A bs.length 1 (eB bs)) (hb:bs.length≤10000000) :
  Calls Tryz.prog 204 #[.pointer (some ⟨bw,0,none⟩),.slice A bs.length c] w fun e w'=>e=.returned (.tuple #[])∧In F0 w0 w' (R.set i (WA bw (l++bs))):=by
 have hi:=(List.getElem?_eq_some_iff.1 hA).1
 obtain⟨v,h1⟩:=h.ex (G:=fun v=>Star (Me bw v l)) i hA (fun v=>bD.star Me.aB)
 have h2:=h1.split (A:=Cells bw #[v] 168) (B:=ay 5 1 v l.length (eB l)) i (by simp [hi,Me]) (Cells.aB _ _ _) (ay.aB _ _ _ _ _)
 rw [List.set_set] at h2
 obtain⟨F,hr⟩:=h2.get 0 rfl
 obtain⟨a,cap,rfl,-,-,-⟩:=hr.shape
 have hbk:=h2.block (i+1) (b:=bw) (C:=#[.slice a l.length cap]) (T:=168) (by rw [List.getElem?_cons_succ,List.getElem?_set_self hi])
 have c0:w.cell? ⟨bw,0,none⟩=some (.slice a l.length cap):=cell_of hbk rfl
 have HH:=Lib.hid h2
 have SS:=Lib.hid hs
 have HP:Hid (∀ w' v',In F0 w0 w' (ay 5 1 v' (l.length+bs.length) (eB l++eB bs)::R.set i (Cells bw #[.slice a l.length cap] 168)) →
   w'.cell? ⟨bw,0,none⟩=some (.slice a l.length cap)∧w'.frozen? ⟨bw,0,none⟩=false∧In F0 w0 (w'.setCell ⟨bw,0,none⟩ v') (R.set i (WA bw (l++bs)))):=Lib.hid fun w' v' h'=>by
  have hb:=h'.block (i+1) (b:=bw) (C:=#[.slice a l.length cap]) (T:=168) (by rw [List.getElem?_cons_succ,List.getElem?_set_self hi])
  refine⟨cell_of hb rfl,aK hb,?_⟩
  have h3:=h'.put (b:=bw) (C:=#[.slice a l.length cap]) (T:=168) (i+1) (by rw [List.getElem?_cons_succ,List.getElem?_set_self hi]) 0 v'
  have h4:In F0 w0 (w'.setCell ⟨bw,0,none⟩ v') (ay 5 1 v' (l++bs).length (eB (l++bs))::R.set i (Cells bw #[v'] 168)):=by
   rw [List.length_append,← uN]
   simpa [List.set_set] using h3
  have h5:=h4.fold (C:=WA bw (l++bs)) (A:=Cells bw #[v'] 168) i (by simp [hi]) (WA.aB _ _) (fun F hF=>⟨v',hF⟩)
  rwa [List.set_set] at h5
 clear h h1 h2 hA hr hbk hs hi
 go_enter Tryz.func204,Tryz.ntmps204
 go_wp2_with (at_builtin;refine iG rfl HH.out 0 rfl (.tmp 10) (.tmp 11) 65 (by rfl) Tryz.underlying65 infoByte (by decide) (by decide) (by rfl) (by rfl) SS.out (vW _) (by omega) ?_)
 intro v' w3 ho hg
 obtain⟨Fw,hw⟩:=ho.get 0 rfl
 obtain⟨aw,cw,rfl,-,-,-⟩:=hw.shape
 obtain⟨d0,d1,hfin⟩:=HP.out w3 _ ho
 have HF:=Lib.hid hfin
 clear ho hw hfin hg HH SS HP
 go_wp2_with fail
 go_end0
 exact⟨rfl,HF.out⟩
def qJ (br:Nat) (l:List UInt8) (e:Int):ax:=fun w F=>∃ v,w.heap[br]?=some (.cells #[v,.int .i64 e] 286 (0,0)) ∧
 ((v=.slice none 0 0∧l=[]∧F=[br])∨∃ g o cap,v=.slice (some ⟨g,o,none⟩) l.length cap∧l.length≤cap∧cap≤maxLen∧g≠br∧F=[br,g]∧g < w.heap.size∧∀ j u,(eB l)[j]?=some u→w.cell? ⟨g,o+j,none⟩=some u)
theorem qJ.aB (br:Nat) (l:List UInt8) (e:Int):bD (qJ br l e):=by
 refine⟨?_,?_⟩
 ·rintro w w' F ⟨v,hb,h⟩ hk
  rcases h with ⟨h1,h2,rfl⟩|⟨g,o,cap,h1,h2,h3,h4,rfl,h5,h6⟩
  ·exact⟨v,by rw [hk br (by simp)];exact hb,Or.inl ⟨h1,h2,rfl⟩⟩
  ·have hg:=hk g (by simp)
   refine⟨v,by rw [hk br (by simp)];exact hb,Or.inr ⟨g,o,cap,h1,h2,h3,h4,rfl,?_,fun j u hu=>by rw [World.cell?_of_block (a:=⟨g,o+j,none⟩) hg];exact h6 j u hu⟩⟩
   have:w.heap[g]?=some w.heap[g]:=Array.getElem?_eq_getElem h5
   exact kr (hg.trans this)
 ·rintro w F ⟨v,hb,h⟩ b Pq
  rcases h with ⟨h1,h2,rfl⟩|⟨g,o,cap,h1,h2,h3,h4,rfl,h5,h6⟩
  ·simp at Pq;subst Pq;exact kr hb
  ·simp at Pq
   rcases Pq with rfl | rfl
   ·exact kr hb
   ·exact h5
def aU (l:List UInt8) (e:Int) (n:Nat):List UInt8×List UInt8×Int:=if e≠0 then ([],l,e) else if l.length < n then ([],[],2) else (l.take n,l.drop n,0)
def sj (br:Nat) (t:List UInt8×List UInt8×Int) (i:Nat) (F0:List Nat) (w0:World) (R:List ax) (e:Ending) (w':World):Prop:=
 ∃ A c,e=.returned (.slice A t.1.length c)∧(A=none→c=0∧t.1=[])∧Src w' A t.1.length 1 (eB t.1)∧In F0 w0 w' (R.set i (qJ br t.2.1 t.2.2))
theorem uU (g o:Nat) (n cap i:Nat) (h1:i≤cap) (w:World):(Instr.slice 65 (.slice (some ⟨g,o,none⟩) n cap) none (some (.int .i64 i)) none).run Tryz.prog w=.ok (.slice (some ⟨g,o,none⟩) i cap) w:=
 Cj Tryz.underlying65 infoByte g o n cap i h1 w
theorem Mg {br:Nat} {e:Int} (h:In F0 w0 w R) (i:Nat) (hA:R[i]?=some (qJ br l e)) (n:Nat) (hn:n≤100000000) :
  Calls Tryz.prog 281 #[.pointer (some ⟨br,0,none⟩),.int .i64 n] w (sj br (aU l e n) i F0 w0 R):=by
 have hi:=(List.getElem?_eq_some_iff.1 hA).1
 obtain⟨F,v,hb,hv⟩:=h.get i hA
 have c1:w.cell? ⟨br,1,none⟩=some (.int .i64 e):=cell_of hb rfl
 have c0:w.cell? ⟨br,0,none⟩=some v:=cell_of hb rfl
 have f0:w.frozen? ⟨br,0,none⟩=false:=aK hb
 have f1:w.frozen? ⟨br,1,none⟩=false:=aK hb
 by_cases he:e=0
 ·subst he
  by_cases hlt:l.length < n
  ·have HE:Hid (sj br (aU l 0 n) i F0 w0 R (.returned (.slice none 0 0)) ((w.setCell ⟨br,1,none⟩ (.int .i64 2)).setCell ⟨br,0,none⟩ (.slice none 0 0))):=Lib.hid (by
    have e1:aU l 0 n=([],[],2):=by unfold aU;simp [hlt]
    rw [e1]
    refine⟨none,0,rfl,fun _=>⟨rfl,rfl⟩,Src.nil _ _ _,h.step i hA (qJ.aB _ _ _) fun F hF=>?_⟩
    obtain⟨v',hb',hv'⟩:=hF
    rw [hb] at hb';cases hb'
    have hbr:br∈F:=by rcases hv' with ⟨_,_,rfl⟩|⟨g,o,cap,_,_,_,_,rfl,_⟩ <;> simp
    refine⟨[br],⟨.slice none 0 0,?_,Or.inl ⟨rfl,rfl,rfl⟩⟩,fun b hb2=>by simp at hb2;subst hb2;exact Or.inl hbr,?_⟩
    ·have:=aR (o:=0) (v:=.slice none 0 0) (aR (o:=1) (v:=.int .i64 2) hb)
     simpa using this
    ·exact ((Mod.refl F w).setCell (Or.inl hbr) _).setCell (Or.inl hbr) _)
   have hlen:∃ a cap,v=.slice a l.length cap:=by
    rcases hv with ⟨rfl,rfl,_⟩|⟨g,o,cap,rfl,_⟩
    ·exact⟨none,0,rfl⟩
    ·exact⟨_,_,rfl⟩
   obtain⟨a,cap,rfl⟩:=hlen
   have d0:(w.setCell ⟨br,1,none⟩ (.int .i64 2)).cell? ⟨br,0,none⟩=some (.slice a l.length cap):=cell_of (aR (o:=1) (v:=.int .i64 2) hb) rfl
   have g0:(w.setCell ⟨br,1,none⟩ (.int .i64 2)).frozen? ⟨br,0,none⟩=false:=aK (aR (o:=1) (v:=.int .i64 2) hb)
   clear h hA hb hv hi
   have hlt':(l.length:Int) < (n:Int):=by omega
   clear hlt
   go_enter Tryz.func281,Tryz.ntmps281
   go_wp2_with fail
   go_ret
   exact HE.out
  ·have e1:aU l 0 n=(l.take n,l.drop n,0):=by unfold aU;simp [hlt]
   have hge:n≤l.length:=by omega
   rcases hv with ⟨rfl,rfl,_⟩|⟨g,o,cap,rfl,h1,h2,h3,rfl,h4,h5⟩
   ·obtain rfl:n=0:=by simpa using hge
    have HE:Hid (sj br (aU [] 0 0) i F0 w0 R (.returned (.slice none 0 0)) (w.setCell ⟨br,0,none⟩ (.slice none 0 0))):=Lib.hid (by
     rw [e1]
     refine⟨none,0,rfl,fun _=>⟨rfl,rfl⟩,Src.nil _ _ _,h.step i hA (qJ.aB _ _ _) fun F hF=>?_⟩
     obtain⟨v',hb',hv'⟩:=hF
     rw [hb] at hb';cases hb'
     have hbr:br∈F:=by rcases hv' with ⟨_,_,rfl⟩|⟨g,o,cap,_,_,_,_,rfl,_⟩ <;> simp
     refine⟨[br],⟨.slice none 0 0,?_,Or.inl ⟨rfl,rfl,rfl⟩⟩,fun b hb2=>by simp at hb2;subst hb2;exact Or.inl hbr,(Mod.refl F w).setCell (Or.inl hbr) _⟩
     have:=aR (o:=0) (v:=.slice none 0 0) hb
     simpa using this)
    have r1:(Instr.slice 65 (.slice none 0 0) none (some (.int .i64 0)) none).run Tryz.prog w=.ok (.slice none 0 0) w:=mZ Tryz.underlying65 infoByte 0 0 0 (Nat.le_refl _) w
    have r2:(Instr.slice 65 (.slice none 0 0) (some (.int .i64 0)) none none).run Tryz.prog w=.ok (.slice none 0 0) w:=qL Tryz.underlying65 infoByte none 0 0 0 (Nat.le_refl _) w
    clear h hA hb hi hlt hge
    go_enter Tryz.func281,Tryz.ntmps281
    go_wp2_with fail
    go_ret
    exact HE.out
   ·have HE:Hid (sj br (aU l 0 n) i F0 w0 R (.returned (.slice (some ⟨g,o,none⟩) n cap)) (w.setCell ⟨br,0,none⟩ (.slice (Ed (some ⟨g,o,none⟩) cap n 1) (l.length - n:Nat) (cap - n)))):=Lib.hid (by
     rw [e1]
     have hln:(l.take n).length=n:=by rw [List.length_take];omega
     have hset:=fun (u:Value)=>aR (o:=0) (v:=u) hb
     have hoth:∀ (u:Value) k,(w.setCell ⟨br,0,none⟩ u).cell? ⟨g,k,none⟩=w.cell? ⟨g,k,none⟩:=fun u k=>World.cell?_of_block (pU (a:=⟨br,0,none⟩) (v:=u) h3)
     refine⟨some ⟨g,o,none⟩,cap,by rw [hln],(fun e=>by cases e),⟨by rw [iq,Nat.mul_one],fun h0=>⟨_,rfl,fun j u hu=>?_⟩⟩,h.step i hA (qJ.aB _ _ _) fun F hF=>?_⟩
     ·rw [lq,hoth]
      rw [← Ac,List.getElem?_take] at hu
      split at hu
      ·exact h5 j u hu
      ·cases hu
     ·obtain⟨v',hb',hv'⟩:=hF
      rw [hb] at hb';cases hb'
      have hFF:F=[br,g]:=by
       rcases hv' with ⟨e,_⟩|⟨g',o',cap',e,_,_,_,rfl,_⟩
       ·cases e
       ·simp only [Value.slice.injEq,Option.some.injEq,Addr.mk.injEq] at e;rw [e.1.1]
      subst hFF
      have hcell:∀ (k j:Nat) (u:Value),(eB (l.drop n))[j]?=some u→w.cell? ⟨g,o+(n+j),none⟩=some u:=fun k j u hu=>by
       rw [← Ad,List.getElem?_drop] at hu
       exact h5 _ u hu
      refine⟨[br,g],⟨_,hset _,Or.inr ?_⟩,uL.refl _ _,(Mod.refl _ w).setCell (Or.inl (by simp)) _⟩
      unfold Ed
      by_cases hc:cap=n
      ·refine⟨g,o,cap - n,by rw [if_pos hc,List.length_drop],by rw [List.length_drop];omega,by omega,h3,rfl,by simpa using h4,fun j u hu=>?_⟩
       rw [← Ad,List.getElem?_drop] at hu
       have:n+j < (eB l).length:=(List.getElem?_eq_some_iff.1 hu).1
       rw [iq] at this;omega
      ·refine⟨g,o+n,cap - n,by rw [if_neg hc,List.length_drop];simp [lq],by rw [List.length_drop];omega,by omega,h3,rfl,by simpa using h4,fun j u hu=>?_⟩
       rw [hoth,Nat.add_assoc]
       exact hcell 0 j u hu)
    have r1:=uU g o l.length cap n (by omega) w
    have r2:=qL Tryz.underlying65 infoByte (some ⟨g,o,none⟩) l.length cap n hge w
    have hge':(n:Int)≤(l.length:Int):=by omega
    clear h hA hb hi hlt h5 e1
    generalize Ed (some ⟨g,o,none⟩) cap n 1=sa at *
    go_enter Tryz.func281,Tryz.ntmps281
    go_wp2_with fail
    go_ret
    exact HE.out
 ·have HE:Hid (sj br (aU l e n) i F0 w0 R (.returned (.slice none 0 0)) w):=Lib.hid (by
   have e1:aU l e n=([],l,e):=by unfold aU;rw [if_pos he]
   rw [e1]
   refine⟨none,0,rfl,fun _=>⟨rfl,rfl⟩,Src.nil _ _ _,?_⟩
   rwa [pX hA])
  have q:(e != 0)=true:=by rw [bne_iff_ne];exact he
  clear h hA hb hv hi he
  go_enter Tryz.func281,Tryz.ntmps281
  go_wp2_with fail
  go_ret
  exact HE.out
def Xa (bs:List UInt8) (n k:Value):Prop:=∃ i:Nat,i≤bs.length∧k=.int .i64 i∧n=.int .u64 (num (bs.take i))
theorem Ua {m:Nat} (x:UInt8) (hm:m < 72057594037927936):bits .or .u64 ((m:Int) * 256) (x.toNat:Int)=((m * 256+x.toNat:Nat):Int):=by
 have hx:=x.toNat_lt
 rw [show ((m:Int) * 256)=((m * 256:Nat):Int) by omega]
 rw [bits_or_u64_nat _ _ (by omega) (by omega)]
 congr 1
 have e:m * 256=m <<< 8:=by rw [Nat.shiftLeft_eq]
 rw [e,← Nat.shiftLeft_add_eq_or_of_lt (by omega),← e]
def Mh (br:Nat) (t:List UInt8×List UInt8×Int) (i:Nat) (F0:List Nat) (w0:World) (R:List ax) (e:Ending) (w':World):Prop:=
 e=.returned (.int .u64 (num t.1))∧In F0 w0 w' (R.set i (qJ br t.2.1 t.2.2))
theorem GU (bs:List UInt8) (i:Nat) (h:bs.length≤8) (hi:i < bs.length):num (bs.take i) < 72057594037927936:=by
 have h1:=xD (bs.take i)
 have h2:(bs.take i).length≤7:=by rw [List.length_take];omega
 have h3:256 ^ (bs.take i).length≤256 ^ 7:=Nat.pow_le_pow_right (by omega) h2
 omega
theorem fE (l:List UInt8) (e:Int) (n:Nat):(aU l e n).1.length≤n:=by
 unfold aU;split
 ·simp
 ·split
  ·simp
  ·rw [List.length_take];omega
theorem El {br:Nat} {e:Int} (h:In F0 w0 w R) (i:Nat) (hA:R[i]?=some (qJ br l e)) (n:Nat) (hn:n≤8) :
  Calls Tryz.prog 257 #[.pointer (some ⟨br,0,none⟩),.int .i64 n] w (Mh br (aU l e n) i F0 w0 R):=by
 have HC:=Lib.hid (Mg h i hA n (by omega))
 have hl8:(aU l e n).1.length≤8:=Nat.le_trans (fE l e n) hn
 clear h hA
 go_enter Tryz.func257,Tryz.ntmps257
 go_wp2_with fail
 refine HC.out.mono ?_
 rintro e' w1 ⟨A,c,rfl,-,hs,ho⟩
 have HF:Hid (Mh br (aU l e n) i F0 w0 R (.returned (.int .u64 (num (aU l e n).1))) w1):=Lib.hid ⟨rfl,ho⟩
 have SS:=Lib.hid hs
 clear hs ho HC
 generalize (aU l e n)=t at *
 obtain⟨bs,l',e''⟩:=t
 simp only at hl8 SS HF ⊢
 go_wp2_with fail
 go_loop [5,12] (Xa bs) (fun _ k=>bs.length - (intOf k).toNat)
 case atStart=>exact⟨0,Nat.zero_le _,rfl,rfl⟩
 case round=>
  obtain⟨j,hj,rfl,rfl⟩:=hrel
  by_cases hlt:j < bs.length
  ·obtain⟨x,hx⟩:∃ x,bs[j]?=some x:=⟨bs[j],List.getElem?_eq_getElem hlt⟩
   obtain⟨ad,rfl,hc⟩:=SS.out.at' (by omega)
   have c0:=hc j (.int .u8 x.toNat) (by simp [eB,hx])
   have hlt':(j:Int) < (bs.length:Int):=by omega
   have hm:=GU bs j hl8 hlt
   have HX:Hid (num (bs.take (j+1))=num (bs.take j) * 256+x.toNat):=Lib.hid (by rw [List.take_add_one,hx];exact GN _ _)
   have hq:=Ua x hm
   have hxl:=x.toNat_lt
   clear hx hc
   generalize num (bs.take j)=m at *
   generalize x.toNat=xn at *
   have q1:IntKind.u64.wrap ((m:Int) * 256)=((m * 256:Nat):Int):=by rw [IntKind.wrap_u64];omega
   go_wp2_with fail
   go_round
   case rel=>exact⟨j+1,by omega,by go_num,by rw [HX.out];go_num⟩
   case measure=>simp [intOf];omega
  ·have hjl:j=bs.length:=by omega
   subst hjl
   rw [List.take_length]
   go_wp2_with fail
   go_ret
   exact HF.out
section
variable {F0:List Nat} {w0 w:World} {R:List ax} {l:List UInt8} {br:Nat} {e:Int}
theorem gJ {bs:List UInt8} {k:Nat} (h:bs.length≤k):num bs < 256 ^ k:=Nat.lt_of_lt_of_le (xD bs) (Nat.pow_le_pow_right (by omega) h)
def Af (v:Value) (br:Nat) (t:List UInt8×List UInt8×Int) (i:Nat) (F0:List Nat) (w0:World) (R:List ax) (e:Ending) (w':World):Prop:=
 e=.returned v∧In F0 w0 w' (R.set i (qJ br t.2.1 t.2.2))
theorem PN (h:In F0 w0 w R) (i:Nat) (hA:R[i]?=some (qJ br l e)) :
  Calls Tryz.prog 255 #[.pointer (some ⟨br,0,none⟩)] w (Af (.int .i64 (num (aU l e 1).1)) br (aU l e 1) i F0 w0 R):=by
 have HC:=Lib.hid (El h i hA 1 (by omega))
 have hlt:=gJ (fE l e 1)
 clear h hA
 generalize aU l e 1=t at *
 have hlt':num t.1 < 256:=by simpa using hlt
 clear hlt
 go_enter Tryz.func255,Tryz.ntmps255
 go_wp2_with fail
 refine HC.out.mono ?_
 rintro e' w1 ⟨rfl,ho⟩
 have HO:=Lib.hid ho
 clear ho HC
 generalize num t.1=m at *
 go_wp2_with fail
 go_ret
 exact⟨rfl,HO.out⟩
theorem Em (h:In F0 w0 w R) (i:Nat) (hA:R[i]?=some (qJ br l e)) :
  Calls Tryz.prog 219 #[.pointer (some ⟨br,0,none⟩)] w (Af (.int .i64 (num (aU l e 2).1)) br (aU l e 2) i F0 w0 R):=by
 have HC:=Lib.hid (El h i hA 2 (by omega))
 have hlt:=gJ (fE l e 2)
 clear h hA
 generalize aU l e 2=t at *
 have hlt':num t.1 < 65536:=by simpa using hlt
 clear hlt
 go_enter Tryz.func219,Tryz.ntmps219
 go_wp2_with fail
 refine HC.out.mono ?_
 rintro e' w1 ⟨rfl,ho⟩
 have HO:=Lib.hid ho
 clear ho HC
 generalize num t.1=m at *
 go_wp2_with fail
 go_ret
 exact⟨rfl,HO.out⟩
theorem sw (h:In F0 w0 w R) (i:Nat) (hA:R[i]?=some (qJ br l e)) :
  Calls Tryz.prog 218 #[.pointer (some ⟨br,0,none⟩)] w (Af (.int .u32 (num (aU l e 4).1)) br (aU l e 4) i F0 w0 R):=by
 have HC:=Lib.hid (El h i hA 4 (by omega))
 have hlt:=gJ (fE l e 4)
 clear h hA
 generalize aU l e 4=t at *
 have hlt':num t.1 < 4294967296:=by simpa using hlt
 clear hlt
 go_enter Tryz.func218,Tryz.ntmps218
 go_wp2_with fail
 refine HC.out.mono ?_
 rintro e' w1 ⟨rfl,ho⟩
 have HO:=Lib.hid ho
 clear ho HC
 generalize num t.1=m at *
 go_wp2_with fail
 go_ret
 exact⟨rfl,HO.out⟩
theorem aaH:256 ^ 8=18446744073709551616:=by rfl
def rT (m:Nat):Int:=wrap64 m
theorem PO {v v':Value} (h:v=v'):Ending.returned v=Ending.returned v':=by rw [h]
theorem Xb (h:In F0 w0 w R) (i:Nat) (hA:R[i]?=some (qJ br l e)) :
  Calls Tryz.prog 261 #[.pointer (some ⟨br,0,none⟩)] w (Af (.int .i64 (rT (num (aU l e 8).1))) br (aU l e 8) i F0 w0 R):=by
 have HC:=Lib.hid (El h i hA 8 (by omega))
 have hlt:=gJ (fE l e 8)
 clear h hA
 generalize aU l e 8=t at *
 have hlt':num t.1 < 18446744073709551616:=aaH ▸ hlt
 clear hlt
 go_enter Tryz.func261,Tryz.ntmps261
 go_wp2_with fail
 refine HC.out.mono ?_
 rintro e' w1 ⟨rfl,ho⟩
 have HO:=Lib.hid ho
 clear ho HC
 have HS:Hid (rT (num t.1)=wrap64 (num t.1)):=Lib.hid rfl
 generalize num t.1=m at *
 go_wp2_with fail
 go_ret
 exact⟨by rw [HS.out];exact PO rfl,HO.out⟩
theorem Mi (h:In F0 w0 w R) {A:Option Addr} {c:Nat} {bs:List UInt8} (hn:A=none→c=0∧bs=[]) (hs:Src w A bs.length 1 (eB bs)) (hl:bs.length≤100000000) :
  Calls Tryz.prog 87 #[.slice A bs.length c] w fun e w'=>∃ v,e=.returned v∧In F0 w0 w' (ay 5 1 v bs.length (eB bs)::R):=by
 cases A with
 | none=>obtain⟨rfl,rfl⟩:=hn rfl;exact uQ h
 | some ad=>exact uP h hs hl
def Mj (br:Nat) (t:List UInt8×List UInt8×Int) (i:Nat) (F0:List Nat) (w0:World) (R:List ax) (e:Ending) (w':World):Prop:=
 ∃ v,e=.returned v∧In F0 w0 w' (ay 5 1 v t.1.length (eB t.1)::R.set i (qJ br t.2.1 t.2.2))
theorem PR (h:In F0 w0 w R) (i:Nat) (hA:R[i]?=some (qJ br l e)) (n:Nat) (hn:n≤100000000) :
  Calls Tryz.prog 254 #[.pointer (some ⟨br,0,none⟩),.int .i64 n] w (Mj br (aU l e n) i F0 w0 R):=by
 have HC:=Lib.hid (Mg h i hA n hn)
 have hlt:=fE l e n
 clear h hA
 generalize aU l e n=t at *
 go_enter Tryz.func254,Tryz.ntmps254
 go_wp2_with fail
 refine HC.out.mono ?_
 rintro e' w1 ⟨A,c,rfl,hn,hs,ho⟩
 have H2:=Lib.hid (Mi (c:=c) ho hn hs (by omega))
 clear ho hn hs HC
 go_wp2_with fail
 refine H2.out.mono ?_
 rintro e' w2 ⟨v,rfl,ho⟩
 have HF:Hid (Mj br t i F0 w0 R (.returned v) w2):=Lib.hid ⟨v,rfl,ho⟩
 clear ho H2
 go_wp2_with fail
 go_ret
 exact HF.out
theorem Ub (h:In F0 w0 w R) (i:Nat) (hA:R[i]?=some (qJ br l e)):Calls Tryz.prog 282 #[.pointer (some ⟨br,0,none⟩)] w fun e w'=>e=.returned (.int .i64 l.length)∧w'=w:=by
 obtain⟨F,v,hb,hv⟩:=h.get i hA
 have c0:w.cell? ⟨br,0,none⟩=some v:=cell_of hb rfl
 have hlen:∃ a cap,v=.slice a l.length cap:=by
  rcases hv with ⟨rfl,rfl,_⟩|⟨g,o,cap,rfl,_⟩
  ·exact⟨none,0,rfl⟩
  ·exact⟨_,_,rfl⟩
 obtain⟨a,cap,rfl⟩:=hlen
 clear h hA hb hv
 go_enter Tryz.func282,Tryz.ntmps282
 go_wp2_with fail
 go_ret
 exact⟨rfl,rfl⟩
def jS (l:List UInt8) (e:Int):Int:=if e=0 then (if l=[] then 0 else 3) else e
theorem uV (h:In F0 w0 w R) (i:Nat) (hA:R[i]?=some (qJ br l e)) (hl:l.length≤100000000):Calls Tryz.prog 220 #[.pointer (some ⟨br,0,none⟩)] w fun e' w'=>e'=.returned (.int .i64 (jS l e))∧w'=w:=by
 obtain⟨F,v,hb,hv⟩:=h.get i hA
 have c0:w.cell? ⟨br,0,none⟩=some v:=cell_of hb rfl
 have c1:w.cell? ⟨br,1,none⟩=some (.int .i64 e):=cell_of hb rfl
 have hlen:∃ a cap,v=.slice a l.length cap:=by
  rcases hv with ⟨rfl,rfl,_⟩|⟨g,o,cap,rfl,_⟩
  ·exact⟨none,0,rfl⟩
  ·exact⟨_,_,rfl⟩
 obtain⟨a,cap,rfl⟩:=hlen
 clear h hA hb hv
 by_cases he:e=0
 ·subst he
  by_cases hn:l=[]
  ·have HE:Hid (jS l 0=0):=Lib.hid (by simp [jS,hn])
   have h0:decide (0 < l.length)=false:=by simp [hn]
   clear hn
   generalize l.length=n at *
   go_enter Tryz.func220,Tryz.ntmps220
   go_wp2_with fail
   go_ret
   exact⟨by rw [HE.out];rfl,rfl⟩
  ·have HE:Hid (jS l 0=3):=Lib.hid (by simp [jS,hn])
   have h0:decide (0 < l.length)=true:=by simpa using List.length_pos_iff.2 hn
   clear hn
   generalize l.length=n at *
   go_enter Tryz.func220,Tryz.ntmps220
   go_wp2_with fail
   go_ret
   exact⟨by rw [HE.out];rfl,rfl⟩
 ·have HE:Hid (jS l e=e):=Lib.hid (by simp [jS,he])
  have q:(e == 0)=false:=beq_eq_false_iff_ne.2 he
  clear he
  go_enter Tryz.func220,Tryz.ntmps220
  go_wp2_with fail
  go_ret
  exact⟨by rw [HE.out];rfl,rfl⟩
theorem Nt {g:Nat} {v:Value} {bs:List UInt8} (h:In F0 w0 w (Cells g #[v,.int .i64 0] 286::ay 5 1 v bs.length (eB bs)::R)):In F0 w0 w (qJ g bs 0::R):=by
 have h1:=In.join (A1:=[Cells g #[v,.int .i64 0] 286,ay 5 1 v bs.length (eB bs)]) (R:=R) h
 refine h1.imp (A':=qJ g bs 0) 0 rfl (qJ.aB _ _ _) fun F hF=>?_
 obtain⟨F1,F2,⟨rfl,h2⟩,⟨F3,F4,h3,rfl,_,rfl⟩,h4,rfl⟩:=hF
 obtain⟨a,cap,rfl,k1,k2,k3⟩:=h3.shape
 refine⟨_,h2,?_⟩
 obtain⟨h5,h6⟩:=h3
 rcases h6.2 with h7 | ⟨g',c,cur,e,_,hb,_⟩
 ·left
  refine⟨h7.1,List.length_eq_zero_iff.1 h7.2,?_⟩
  rw [h5,h7.1];simp [Value.ownBlock]
 ·right
  cases e
  refine⟨g',0,cap,rfl,k1,k2,?_,?_,kr hb,fun j u hu=>?_⟩
  ·rintro rfl
   exact h4 g' (by simp) (by rw [h5];simp [Value.ownBlock])
  ·rw [h5];simp [Value.ownBlock]
  ·obtain⟨b,e,hc⟩:=k3 j u hu
   cases e
   rw [Nat.zero_add];exact hc
theorem JJ (h:In F0 w0 w R) {A:Option Addr} {c:Nat} {bs:List UInt8} (hn:A=none→c=0∧bs=[]) (hs:Src w A bs.length 1 (eB bs)) (hl:bs.length≤100000000) :
  Calls Tryz.prog 217 #[.slice A bs.length c] w fun e w'=>∃ br,e=.returned (.pointer (some ⟨br,0,none⟩))∧In F0 w0 w' (qJ br bs 0::R):=by
 have HC:=Lib.hid (Mi (c:=c) h hn hs hl)
 clear h hn hs
 go_enter Tryz.func217,Tryz.ntmps217
 go_wp2_with fail
 refine HC.out.mono ?_
 rintro e' w1 ⟨v,rfl,ho⟩
 obtain⟨F,hr⟩:=ho.get 0 rfl
 obtain⟨a,cap,rfl,-,-,-⟩:=hr.shape
 have h2:=Nt (ho.cells #[.slice a bs.length cap,.int .i64 0] 286)
 have H2:=Lib.hid h2
 clear ho h2 hr HC
 go_wp2_with fail
 go_ret
 exact⟨_,rfl,H2.out⟩
theorem GX (h:In F0 w0 w R) {ad:Addr} {n c:Nat} {l:List UInt8} (hs:Src w (some ad) n 1 (eB l)) (hn:n≤100000000) :
  Calls Tryz.prog 256 #[.slice (some ad) n c] w fun e w'=>∃ v,e=.returned v∧In F0 w0 w' (ay 5 1 v n (eB l)::R):=by
 have HH:=Lib.hid h
 have HS:=Lib.hid hs
 clear h hs
 have hq:∀ (w:World) (a:Option Addr) (n c n' c':Nat),(binOp .eql 65 (.slice a n c) (.slice none n' c')).run Tryz.prog w=.ok (.bool a.isNone) w:=fun w a n c n' c'=>Lib.run_eql_slice_nil w _ _ a n c n' c' Tryz.underlying65
 go_enter Tryz.func256,Tryz.ntmps256
 go_wp2_with (at_builtin;refine iG rfl ((HH.out.cells #[] 5).row0 (k:=1) 0 rfl) 0 rfl (.tmp 5) (.tmp 6) 65 (by rfl) Tryz.underlying65 infoByte (by decide) (by decide) (by rfl) (by rfl) (pV HS.out _) (vW _) (by omega) ?_)
 intro v' w3 ho hg
 have HO:=Lib.hid ho
 clear ho hg
 go_wp2_with fail
 go_ret
 exact⟨_,rfl,HO.out⟩
end
end
structure Bk where
 id:Int
 addr:Int
 weight:Int
deriving DecidableEq,Inhabited
structure Rec where
 kind:Int
 fl:Fl
 gen:Int
 au:List Bk
 bk:Int
 till:Int
 count:Int
deriving DecidableEq,Inhabited
def eO:rX:=⟨0,0,0,0,0⟩
def aQ:Fl:=⟨eO,0,0,0⟩
def aM:Rec:=⟨0,aQ,0,[],0,0,0⟩
def gy (b:Bk):Bool:=decide (0≤b.id∧b.id≤65535) && decide (1≤b.weight∧b.weight≤10)
def bR (r:Rec):Bool:=
 if r.kind=1 then decide (si r.fl)
 else if r.kind=2 then decide (rZ r.fl.t)
 else if r.kind=3 then decide (0≤r.gen∧r.gen≤1000000) && (decide (r.au.length≤16) && r.au.all gy)
 else if r.kind=4 then decide (0≤r.bk∧r.bk≤65535) && decide (0≤r.till∧r.till≤1099511627776)
 else if r.kind=5 then decide (0≤r.bk∧r.bk≤65535)
 else if r.kind=6 then decide (0≤r.count∧r.count≤1000000)
 else false
def aN (r:Rec):Rec:=
 if r.kind=1 then ⟨1,r.fl,0,[],0,0,0⟩
 else if r.kind=2 then ⟨2,⟨r.fl.t,0,0,0⟩,0,[],0,0,0⟩
 else if r.kind=3 then ⟨3,aQ,r.gen,r.au,0,0,0⟩
 else if r.kind=4 then ⟨4,aQ,0,[],r.bk,r.till,0⟩
 else if r.kind=5 then ⟨5,aQ,0,[],r.bk,0,0⟩
 else if r.kind=6 then ⟨6,aQ,0,[],0,0,r.count⟩
 else ⟨r.kind,aQ,0,[],0,0,0⟩
def di (v:Int):Bool:=decide (1≤v∧v≤3)
def nG (v:Int) (f:Fl):Fl:=⟨f.t,f.bk,if v < 2 then 0 else f.gen,if v < 3 then 0 else f.seen⟩
def eU (v:Int) (b:Bk):Bk:=if v < 2 then ⟨b.id,b.addr,1⟩ else b
def dB (r:Rec) (v:Int):Rec:=
 if di v=false then aM else
 ⟨(aN r).kind,if r.kind=1 then nG v (aN r).fl else (aN r).fl,(aN r).gen,(aN r).au.map (eU v),(aN r).bk,(aN r).till,(aN r).count⟩
def Mk (v:Int) (b:Bk):List UInt8:=be (u64 b.id) 2++be (u64 b.addr) 4++(if 2≤v then be (u64 b.weight) 1 else [])
def mU (v:Int) (l:List Bk):List UInt8:=(l.map (Mk v)).flatten
def dw (r:Rec) (v:Int):List UInt8:=
 if r.kind=1 then oJ r.fl.t++be (u64 r.fl.bk) 2++(if 2≤v then be (u64 r.fl.gen) 4 else [])++(if 3≤v then be (u64 r.fl.seen) 8 else [])
 else if r.kind=2 then oJ r.fl.t
 else if r.kind=3 then be (u64 r.gen) 4++be (u64 r.au.length) 1++mU v r.au
 else if r.kind=4 then be (u64 r.bk) 2++be (u64 r.till) 8
 else if r.kind=5 then be (u64 r.bk) 2
 else if r.kind=6 then be (u64 r.count) 4
 else []
def dI (r:Rec) (v:Int):cz×Int:=
 if di v=false then (ja,10) else if bR r=false then (ja,1) else (⟨r.kind.toNat,v.toNat,dw r v⟩,0)
/-! ### What bytes say -/
abbrev pq:=List UInt8×Int
def kR (n:Nat) (s:pq):Nat:=num (aU s.1 s.2 n).1
def gK (n:Nat) (s:pq):pq:=(aU s.1 s.2 n).2
def yG (s:pq):rX:=⟨kR 4 s,kR 4 (gK 4 s),kR 1 (gK 4 (gK 4 s)),kR 2 (gK 1 (gK 4 (gK 4 s))),kR 2 (gK 2 (gK 1 (gK 4 (gK 4 s))))⟩
def jV (s:pq):rX×Bool×pq:=
 if s.1.length < 13 then (eO,false,gK 13 s)
 else if rZ (yG s) then (yG s,true,gK 2 (gK 2 (gK 1 (gK 4 (gK 4 s)))))
 else (eO,false,gK 2 (gK 2 (gK 1 (gK 4 (gK 4 s)))))
def wu (v:Int) (s:pq):Fl×Bool×pq:=
 let t:=jV s
 let s1:=gK 2 t.2.2
 let s2:=if 2≤v then gK 4 s1 else s1
 let s3:=if 3≤v then gK 8 s2 else s2
 (⟨t.1,kR 2 t.2.2,if 2≤v then (kR 4 s1:Int) else 0,if 3≤v then rT (kR 8 s2) else 0⟩,t.2.1,s3)
def wy (v:Int) (s:pq):Bk×pq:=
 (⟨kR 2 s,kR 4 (gK 2 s),if 2≤v then (kR 1 (gK 4 (gK 2 s)):Int) else 1⟩,if 2≤v then gK 1 (gK 4 (gK 2 s)) else gK 4 (gK 2 s))
def rdBks (v:Int):Nat→pq→List Bk×pq
 | 0,s=>([],s)
 | n+1,s=>((rdBks v n s).1++[(wy v (rdBks v n s).2).1],(wy v (rdBks v n s).2).2)
def fQ (kind v:Int) (s:pq):Rec×Bool×pq:=
 if kind=1 then (⟨1,(wu v s).1,0,[],0,0,0⟩,(wu v s).2.1,(wu v s).2.2)
 else if kind=2 then (⟨2,⟨(jV s).1,0,0,0⟩,0,[],0,0,0⟩,(jV s).2.1,(jV s).2.2)
 else if kind=3 then
  let b:=rdBks v (min (kR 1 (gK 4 s)) 17) (gK 1 (gK 4 s))
  (⟨3,aQ,kR 4 s,b.1,0,0,0⟩,true,b.2)
 else if kind=4 then (⟨4,aQ,0,[],kR 2 s,rT (kR 8 (gK 2 s)),0⟩,true,gK 8 (gK 2 s))
 else if kind=5 then (⟨5,aQ,0,[],kR 2 s,0,0⟩,true,gK 2 s)
 else if kind=6 then (⟨6,aQ,0,[],0,0,kR 4 s⟩,true,gK 4 s)
 else (⟨kind,aQ,0,[],0,0,0⟩,true,s)
def jy (f:cz):Rec×Int:=
 if di f.ak=false then (aM,10)
 else
  let r:=fQ f.kind f.ak (f.body,0)
  if r.2.1=true∧jS r.2.2.1 r.2.2.2=0∧bR r.1=true then (r.1,0) else (aM,3)
/-! ### Its numbers fit their types -/
structure Xc (b:Bk):Prop where
 i0:-9223372036854775808≤b.id
 i1:b.id < 9223372036854775808
 a0:0≤b.addr
 a1:b.addr < 4294967296
 w0:-9223372036854775808≤b.weight
 w1:b.weight < 9223372036854775808
structure nS (r:Rec):Prop where
 t:GK r.fl.t
 addr:∀ b∈r.au,0≤b.addr∧b.addr < 4294967296
/-! ### Laws -/
theorem PS {n:Nat} (a b:List UInt8) (h:a.length=n):aU (a++b) 0 n=(a,b,0):=by
 unfold aU
 rw [if_neg (by simp),if_neg (by rw [List.length_append];omega),← h]
 simp
theorem Xd {n w:Nat} (h:n < 256 ^ w) (b:List UInt8):kR w (be n w++b,0)=n:=by
 unfold kR;rw [PS _ _ (bf n w)];exact qP h
theorem Xe (n w:Nat) (b:List UInt8):gK w (be n w++b,0)=(b,0):=by
 unfold gK;rw [PS _ _ (bf n w)]
theorem Nu {n:Int} {k:Nat} (h0:0≤n) (h1:n < k) (hk:k≤18446744073709551616):u64 n < k:=(Nq h0 h1 hk).1
theorem PT {n:Int} (h0:0≤n) (h1:n < 18446744073709551616):((u64 n:Nat):Int)=n:=Ef h0 h1
theorem gL {n:Int} {w:Nat} (h0:0≤n) (h1:n < (256 ^ w:Nat)) (hw:(256 ^ w:Nat)≤18446744073709551616) (b:List UInt8):((kR w (be (u64 n) w++b,0):Nat):Int)=n:=by
 rw [Xd (Nu h0 h1 hw)];exact PT h0 (by omega)
theorem kE (n:Int) (w:Nat) (b:List UInt8):gK w (be (u64 n) w++b,0)=(b,0):=Xe _ _ _
theorem CE {t:rX} (wt:GK t) (mt:rZ t) (b:List UInt8):jV (oJ t++b,0)=(t,true,(b,0)):=by
 have e:oJ t++b=be (u64 t.src) 4++(be (u64 t.dst) 4++(be (u64 t.proto) 1++(be (u64 t.ag) 2++(be (u64 t.ah) 2++b)))):=by simp [oJ,List.append_assoc]
 have hl:¬ (oJ t++b).length < 13:=by rw [List.length_append,iH];omega
 have hp:0≤t.proto∧t.proto < 256:=by rcases mt.proto with h | h <;> rw [h] <;> decide
 have k1:=mt.Zy;have k2:=mt.sp1;have k3:=mt.Zz;have k4:=mt.dp1
 have ht:yG (oJ t++b,0)=t:=by
  unfold yG
  rw [e]
  simp only [kE]
  rw [gL wt.s0 (by have:=wt.s1;simpa using this) (by decide),gL wt.d0 (by have:=wt.d1;simpa using this) (by decide),gL hp.1 (by simpa using hp.2) (by decide),gL k1 (by simp;omega) (by decide),gL k3 (by simp;omega) (by decide)]
 unfold jV
 rw [if_neg hl,ht,if_pos mt,e]
 simp only [kE]
theorem Xf {v:Int} {b:Bk} (hb:gy b=true) (ha:0≤b.addr∧b.addr < 4294967296) (r:List UInt8):wy v (Mk v b++r,0)=(eU v b,(r,0)):=by
 simp only [gy,Bool.and_eq_true,decide_eq_true_eq] at hb
 obtain⟨⟨b1,b2⟩,b3,b4⟩:=hb
 unfold wy Mk eU
 by_cases hv:2≤v
 ·simp only [if_pos hv,List.append_assoc,kE]
  rw [gL b1 (by simp;omega) (by decide),gL ha.1 (by simpa using ha.2) (by decide),gL (by omega) (by simp;omega) (by decide),if_neg (by omega)]
 ·simp only [if_neg hv,List.append_assoc,List.nil_append,kE]
  rw [gL b1 (by simp;omega) (by decide),gL ha.1 (by simpa using ha.2) (by decide),if_pos (by omega)]
theorem Nv (v:Int) (l:List Bk) (b:Bk):mU v (l++[b])=mU v l++Mk v b:=by simp [mU]
theorem Ag {v:Int} {l:List Bk} (hl:∀ b∈l,gy b=true∧0≤b.addr∧b.addr < 4294967296) (r:List UInt8) :
  ∀ k,k≤l.length→rdBks v k (mU v l++r,0)=((l.take k).map (eU v),(mU v (l.drop k)++r,0))
 | 0,_=>by simp [rdBks]
 | k+1,h=>by
  obtain⟨x,hx⟩:∃ x,l[k]?=some x:=⟨l[k],List.getElem?_eq_getElem h⟩
  have hd:l.drop k=x::l.drop (k+1):=by
   have hx':l[k]=x:=by
    have:=List.getElem?_eq_getElem (l:=l) (i:=k) h
    rw [this] at hx;exact Option.some.inj hx
   rw [List.drop_eq_getElem_cons h,hx']
  have hm:=hl x (List.mem_of_getElem? hx)
  unfold rdBks
  rw [Ag hl r k (by omega),hd]
  have e:mU v (x::l.drop (k+1))++r=Mk v x++(mU v (l.drop (k+1))++r):=by simp [mU,List.append_assoc]
  simp only [e,Xf hm.1 hm.2]
  rw [List.take_add_one,hx];simp
theorem Nw {v:Int} {l:List Bk} (hl:∀ b∈l,gy b=true∧0≤b.addr∧b.addr < 4294967296):rdBks v l.length (mU v l,0)=(l.map (eU v),([],0)):=by
 have:=Ag (v:=v) hl [] l.length (Nat.le_refl _)
 simpa [mU] using this
theorem GY {v:Int} {b:Bk} (h:gy b=true):gy (eU v b)=true:=by
 unfold eU;split
 ·simp only [gy,Bool.and_eq_true,decide_eq_true_eq] at h ⊢;omega
 ·exact h
theorem Ah {v:Int} {f:Fl} (h:si f):si (nG v f):=by
 obtain⟨h1,h2,h3,h4,h5,h6,h7⟩:=h
 refine⟨h1,h2,h3,?_,?_,?_,?_⟩ <;> (simp only [nG];split <;> omega)
theorem dV {r:Rec}:bR r=true↔(r.kind=1∧si r.fl)∨(r.kind=2∧rZ r.fl.t)∨(r.kind=3∧(0≤r.gen∧r.gen≤1000000)∧r.au.length≤16∧∀ b∈r.au,gy b=true) ∨
  (r.kind=4∧(0≤r.bk∧r.bk≤65535)∧0≤r.till∧r.till≤1099511627776)∨(r.kind=5∧0≤r.bk∧r.bk≤65535)∨(r.kind=6∧0≤r.count∧r.count≤1000000):=by
 unfold bR
 split
 ·rename_i h;simp [h]
 split
 ·rename_i h;simp [h]
 split
 ·rename_i h;simp [h,List.all_eq_true]
 split
 ·rename_i h;simp [h]
 split
 ·rename_i h;simp [h]
 split
 ·rename_i h;simp [h]
 ·simp;omega
theorem qR {r:Rec} {v:Int} (hv:di v=true):(dB r v).kind=r.kind:=by
 unfold dB;rw [if_neg (by simp [hv])]
 unfold aN
 repeat' split
 all_goals simp_all
theorem JK (r:Rec):(aN r).kind=r.kind:=by
 unfold aN
 repeat' split
 all_goals simp_all
theorem CG {r:Rec} {v:Int} (hv:di v=true) (h:bR r=true):bR (dB r v)=true:=by
 rw [dV] at h ⊢
 have hk:=qR (r:=r) hv
 rw [hk]
 have e:dB r v=_:=if_neg (by simp [hv])
 rcases h with ⟨h1,h2⟩|⟨h1,h2⟩|⟨h1,h2,h3,h4⟩|⟨h1,h2,h3⟩|⟨h1,h2⟩|⟨h1,h2⟩
 ·left;refine⟨h1,?_⟩;rw [e];simp only [if_pos h1,aN];exact Ah h2
 ·right;left;refine⟨h1,?_⟩;rw [e];simp [h1,aN];exact h2
 ·right;right;left;refine⟨h1,?_⟩;rw [e];simp [h1,aN];exact⟨h2,h3,fun b hb=>GY (h4 b hb)⟩
 ·right;right;right;left;refine⟨h1,?_⟩;rw [e];simp [h1,aN];exact⟨h2,h3⟩
 ·right;right;right;right;left;refine⟨h1,?_⟩;rw [e];simp [h1,aN];exact h2
 ·right;right;right;right;right;refine⟨h1,?_⟩;rw [e];simp [h1,aN];exact h2
theorem PU:jS [] 0=0:=rfl
theorem qU {r:Rec} {v:Int} (wr:nS r) (hv:di v=true) (h:bR r=true):(dI r v).2=0∧jy (dI r v).1=(dB r v,0):=by
 have hv':1≤v∧v≤3:=by simpa [di] using hv
 have e0:dI r v=(⟨r.kind.toNat,v.toNat,dw r v⟩,0):=by unfold dI;rw [if_neg (by simp [hv]),if_neg (by simp [h])]
 have evn:((v.toNat:Nat):Int)=v:=Int.toNat_of_nonneg (by omega)
 have him:=CG hv h
 have ei:dB r v=⟨(aN r).kind,if r.kind=1 then nG v (aN r).fl else (aN r).fl,(aN r).gen,(aN r).au.map (eU v),(aN r).bk,(aN r).till,(aN r).count⟩:=if_neg (by simp [hv])
 refine⟨by rw [e0],?_⟩
 suffices hs:∀ k:Int,r.kind=k→fQ k v (dw r v,0)=(dB r v,true,([],0)) by
  have hk:((r.kind.toNat:Nat):Int)=r.kind:=by
   rw [dV] at h;apply Int.toNat_of_nonneg;omega
  rw [e0]
  unfold jy
  simp only [evn,hk]
  rw [if_neg (by simp [hv])]
  rw [hs _ rfl]
  rw [if_pos ⟨rfl,PU,him⟩]
 intro k hk
 have hm:=h
 rw [dV] at hm
 rcases hm with ⟨h1,h2⟩|⟨h1,h2⟩|⟨h1,h2,h3,h4⟩|⟨h1,h2,h3⟩|⟨h1,h2⟩|⟨h1,h2⟩
 ·obtain rfl:k=1:=by omega
  have eb:dw r v=oJ r.fl.t++(be (u64 r.fl.bk) 2++((if 2≤v then be (u64 r.fl.gen) 4 else [])++(if 3≤v then be (u64 r.fl.seen) 8 else []))):=by
   unfold dw;rw [if_pos h1];simp [List.append_assoc]
  have b0:=h2.b0;have b1:=h2.b1;have g0:=h2.g0;have g1:=h2.g1;have t0:=h2.t0;have t1:=h2.t1
  have hs8:∀ x:Int,0≤x→x≤1099511627776→rT (kR 8 (be (u64 x) 8,0))=x:=fun x x0 x1=>by
   have:=gL (n:=x) (w:=8) x0 (by rw [show (256 ^ 8:Nat)=18446744073709551616 from by decide];omega) (by decide) []
   rw [List.append_nil] at this
   unfold rT;rw [this];unfold wrap64;omega
  have hr8:∀ x:Int,gK 8 (be (u64 x) 8,0)=([],0):=fun x=>by
   have:=kE x 8 []
   rwa [List.append_nil] at this
  have hr4:∀ x:Int,gK 4 (be (u64 x) 4,0)=([],0):=fun x=>by
   have:=kE x 4 []
   rwa [List.append_nil] at this
  have hn4:∀ x:Int,0≤x→x≤1000000→((kR 4 (be (u64 x) 4,0):Nat):Int)=x:=fun x x0 x1=>by
   have:=gL (n:=x) (w:=4) x0 (by simp;omega) (by decide) []
   rwa [List.append_nil] at this
  have hr:wu v (dw r v,0)=(nG v r.fl,true,([],0)):=by
   unfold wu nG
   rw [eb,CE wr.t h2.t]
   simp only [kE]
   rw [gL b0 (by simp;omega) (by decide)]
   by_cases c2:2≤v
   ·by_cases c3:3≤v
    ·simp only [if_pos c2,if_pos c3,kE,hr8,hs8 _ t0 t1]
     rw [gL g0 (by simp;omega) (by decide),if_neg (by omega),if_neg (by omega)]
    ·simp only [if_pos c2,if_neg c3,List.append_nil,hr4,hn4 _ g0 g1]
     rw [if_neg (by omega),if_pos (by omega)]
   ·have c3:¬ 3≤v:=by omega
    simp only [if_neg c2,if_neg c3,List.append_nil]
    rw [if_pos (by omega),if_pos (by omega)]
  unfold fQ
  rw [if_pos rfl,hr,ei]
  simp [aN,h1]
 ·obtain rfl:k=2:=by omega
  have eb:dw r v=oJ r.fl.t:=by unfold dw;rw [if_neg (by omega),if_pos h1]
  have hr:jV (dw r v,0)=(r.fl.t,true,([],0)):=by
   rw [eb];have:=CE wr.t h2 [];rwa [List.append_nil] at this
  unfold fQ
  rw [if_neg (by decide),if_pos rfl,hr,ei]
  simp [aN,h1]
 ·obtain rfl:k=3:=by omega
  have eb:dw r v=be (u64 r.gen) 4++(be (u64 r.au.length) 1++mU v r.au):=by
   unfold dw;rw [if_neg (by omega),if_neg (by omega),if_pos h1];simp [List.append_assoc]
  have hn:kR 1 (be (u64 r.au.length) 1++mU v r.au,0)=r.au.length:=by
   have:=gL (n:=r.au.length) (w:=1) (by omega) (by simp;omega) (by decide) (mU v r.au)
   omega
  unfold fQ
  rw [if_neg (by decide),if_neg (by decide),if_pos rfl,eb]
  simp only [kE,hn]
  rw [gL h2.1 (by simp;omega) (by decide),Nat.min_eq_left (by omega),Nw (fun b hb=>⟨h4 b hb,wr.addr b hb⟩),ei]
  simp [aN,h1]
 ·obtain rfl:k=4:=by omega
  have eb:dw r v=be (u64 r.bk) 2++(be (u64 r.till) 8++[]):=by
   unfold dw;rw [if_neg (by omega),if_neg (by omega),if_neg (by omega),if_pos h1];simp
  have hs8:rT (kR 8 (be (u64 r.till) 8++[],0))=r.till:=by
   have:=gL (n:=r.till) (w:=8) h3.1 (by rw [show (256 ^ 8:Nat)=18446744073709551616 from by decide];omega) (by decide) []
   unfold rT;rw [this];unfold wrap64;omega
  unfold fQ
  rw [if_neg (by decide),if_neg (by decide),if_neg (by decide),if_pos rfl,eb]
  simp only [kE,hs8]
  rw [gL h2.1 (by simp;omega) (by decide),ei]
  simp [aN,h1]
 ·obtain rfl:k=5:=by omega
  have eb:dw r v=be (u64 r.bk) 2++[]:=by
   unfold dw;rw [if_neg (by omega),if_neg (by omega),if_neg (by omega),if_neg (by omega),if_pos h1];simp
  unfold fQ
  rw [if_neg (by decide),if_neg (by decide),if_neg (by decide),if_neg (by decide),if_pos rfl,eb]
  simp only [kE]
  rw [gL h2.1 (by simp;omega) (by decide),ei]
  simp [aN,h1]
 ·obtain rfl:k=6:=by omega
  have eb:dw r v=be (u64 r.count) 4++[]:=by
   unfold dw;rw [if_neg (by omega),if_neg (by omega),if_neg (by omega),if_neg (by omega),if_neg (by omega),if_pos h1];simp
  unfold fQ
  rw [if_neg (by decide),if_neg (by decide),if_neg (by decide),if_neg (by decide),if_neg (by decide),if_pos rfl,eb]
  simp only [kE]
  rw [gL h2.1 (by simp;omega) (by decide),ei]
  simp [aN,h1]
theorem sD (v:Int):∀ l:List Bk,(mU v l).length≤7 * l.length
 | []=>Nat.le_refl _
 | b::l=>by
  have:=sD v l
  have e:mU v (b::l)=Mk v b++mU v l:=by simp [mU]
  rw [e,List.length_append,List.length_cons]
  have hb:(Mk v b).length≤7:=by
   unfold Mk
   rw [List.length_append,List.length_append,bf,bf]
   split
   ·rw [bf];omega
   ·simp
  omega
theorem lC {r:Rec} (v:Int) (h:bR r=true):(dw r v).length≤200:=by
 rw [dV] at h
 unfold dw
 split
 ·simp only [List.length_append,iH,bf];split <;> split <;> simp [bf]
 split
 ·rw [iH];omega
 split
 ·have:=sD v r.au
  simp only [List.length_append,bf]
  have:r.au.length≤16:=by omega
  omega
 split
 ·simp [bf]
 split
 ·simp [bf]
 split
 ·simp [bf]
 ·simp
theorem Ai {r:Rec} {v:Int} (h:(dI r v).2=0):ji (dI r v).1∧(dI r v).1.ak=v.toNat∧di v=true∧bR r=true:=by
 unfold dI at h ⊢
 cases hv:di v with
 | false=>rw [hv] at h;simp at h
 | true=>
  cases hm:bR r with
  | false=>rw [hv,hm] at h;simp at h
  | true=>
   simp only [Bool.true_eq_false,if_false,and_true]
   have hv':1≤v∧v≤3:=by simpa [di] using hv
   have hl:=lC v hm
   rw [dV] at hm
   exact⟨by show r.kind.toNat < 256;omega,by show v.toNat < 256;omega,by show (dw r v).length≤4096;omega⟩
theorem yH {α:Type} {p:Nat→α→Prop}:∀ (n:Nat),(∀ i,i < n→∃ x,p i x)→∃ l:List α,l.length=n∧∀ i (hi:i < l.length),p i l[i]
 | 0,_=>⟨[],rfl,fun i hi=>by simp at hi⟩
 | n+1,h=>by
  obtain⟨l,hl,hp⟩:=yH n (fun i hi=>h i (by omega))
  obtain⟨x,hx⟩:=h n (by omega)
  refine⟨l++[x],by simp [hl],fun i hi=>?_⟩
  by_cases hin:i < l.length
  ·rw [List.getElem_append_left hin];exact hp i hin
  ·have:i=l.length:=by simp at hi;omega
   subst this
   simpa [hl] using hx
structure aaz (w:World) (a:Option Addr) (len cap:Nat) (ss:List ByteArray):Prop where
 length:ss.length=len
 room:len≤cap
 most:cap≤maxLen
 small:∀ s∈ss,s.size≤maxLen
 at':len=0∨∃ b o,a=some ⟨b,o,none⟩∧b < w.heap.size∧∀ i (hi:i < ss.length),w.cell? ⟨b,o+i,none⟩=some (.string ss[i])
structure aaA (k:IntKind) (w:World) (a:Option Addr) (len cap:Nat) (zs:List Int):Prop where
 length:zs.length=len
 room:len≤cap
 most:cap≤maxLen
 small:∀ n∈zs,(Lit.int k n).wf=true
 at':len=0∨∃ b o,a=some ⟨b,o,none⟩∧b < w.heap.size∧∀ i (hi:i < zs.length),w.cell? ⟨b,o+i,none⟩=some (.int k zs[i])
section
variable {H:Type} {enc:TypeId×Value→H} {P:Program} {w:World} {base:Nat} {spare:Nat→Bool} {held:Bool}
theorem CJ {a:Addr} {v:Value} (h:w.cell? (a.add 0)=some v):a=⟨a.block,a.off,none⟩:=by
 have:a.add 0=a:=by simp [Addr.add]
 rw [this] at h
 have:=World.cell?_spot h
 cases a;simp at this;simp [this]
theorem add_plain (b o i:Nat):(⟨b,o,none⟩:Addr).add i=⟨b,o+i,none⟩:=by
 unfold Addr.add;split
 ·simp
 ·rfl
end
end Go.Proofs.YtanhdliaaccacaaGreat
