/- Rows.LogCleansCardSaid -/
import Derived.Test.YtaopfagclnocdaaGreatDoorLC3
import Derived.Laws.Bits64b
namespace Go.Proofs.YtaopfagclnocdaaGreatDoor
open Go.RowKit
set_option linter.unusedVariables false
set_option maxHeartbeats 64000000
set_option maxRecDepth 100000
section
variable {F0:List Nat} {w0 w:World} {R:List Asrt} {bw:Nat} {l:List UInt8}
theorem o_wraw (h:In F0 w0 w R) (i:Nat) (hA:R[i]?=some (WA bw l)) (hl:l.length≤1000000) {A:Option Addr} {c:Nat} {bs:List UInt8} (hs:Src w A bs.length 1 (u8s bs)) (hb:bs.length≤10000000) :
  Calls Tryz.prog 105 #[.pointer (some ⟨bw,0,none⟩),.slice A bs.length c] w fun e w'=>e=.returned (.tuple #[])∧In F0 w0 w' (R.set i (WA bw (l++bs))):=by
 have hi:=(List.getElem?_eq_some_iff.1 hA).1
 obtain⟨v,h1⟩:=h.ex (G:=fun v=>Star (WrR bw v l)) i hA (fun v=>Framed.star WrR.framed)
 have h2:=h1.split (A:=Cells bw #[v] 143) (B:=RowA 5 1 v l.length (u8s l)) i (by simp [hi,WrR]) (Cells.framed _ _ _) (RowA.framed _ _ _ _ _)
 rw [List.set_set] at h2
 obtain⟨F,hr⟩:=h2.get 0 rfl
 obtain⟨a,cap,rfl,-,-,-⟩:=hr.shape
 have hbk:=h2.block (i+1) (b:=bw) (C:=#[.slice a l.length cap]) (T:=143) (by rw [List.getElem?_cons_succ,List.getElem?_set_self hi])
 have c0:w.cell? ⟨bw,0,none⟩=some (.slice a l.length cap):=cell_of hbk rfl
 have HH:=Lib.hid h2
 have SS:=Lib.hid hs
 have HP:Hid (∀ w' v',In F0 w0 w' (RowA 5 1 v' (l.length+bs.length) (u8s l++u8s bs)::R.set i (Cells bw #[.slice a l.length cap] 143)) →
   w'.cell? ⟨bw,0,none⟩=some (.slice a l.length cap)∧w'.frozen? ⟨bw,0,none⟩=false∧In F0 w0 (w'.setCell ⟨bw,0,none⟩ v') (R.set i (WA bw (l++bs)))):=Lib.hid fun w' v' h'=>by
  have hb:=h'.block (i+1) (b:=bw) (C:=#[.slice a l.length cap]) (T:=143) (by rw [List.getElem?_cons_succ,List.getElem?_set_self hi])
  refine⟨cell_of hb rfl,free_of hb,?_⟩
  have h3:=h'.put (b:=bw) (C:=#[.slice a l.length cap]) (T:=143) (i+1) (by rw [List.getElem?_cons_succ,List.getElem?_set_self hi]) 0 v'
  have h4:In F0 w0 (w'.setCell ⟨bw,0,none⟩ v') (RowA 5 1 v' (l++bs).length (u8s (l++bs))::R.set i (Cells bw #[v'] 143)):=by
   rw [List.length_append,← u8s_append]
   simpa [List.set_set] using h3
  have h5:=h4.fold (C:=WA bw (l++bs)) (A:=Cells bw #[v'] 143) i (by simp [hi]) (WA.framed _ _) (fun F hF=>⟨v',hF⟩)
  rwa [List.set_set] at h5
 clear h h1 h2 hA hr hbk hs hi
 go_enter Tryz.func105,Tryz.ntmps105
 go_wp2_with (at_builtin;refine app_list rfl HH.out 0 rfl (.tmp 10) (.tmp 11) 32 (by rfl) Tryz.underlying32 infoByte (by decide) (by decide) (by rfl) (by rfl) SS.out (u8s_one _) (by omega) ?_)
 intro v' w3 ho hg
 obtain⟨Fw,hw⟩:=ho.get 0 rfl
 obtain⟨aw,cw,rfl,-,-,-⟩:=hw.shape
 obtain⟨d0,d1,hfin⟩:=HP.out w3 _ ho
 have HF:=Lib.hid hfin
 clear ho hw hfin hg HH SS HP
 go_wp2_with fail
 go_end0
 exact⟨rfl,HF.out⟩
def RdA (br:Nat) (l:List UInt8) (e:Int):Asrt:=fun w F=>∃ v,w.heap[br]?=some (.cells #[v,.int .i64 e] 168 (0,0)) ∧
 ((v=.slice none 0 0∧l=[]∧F=[br])∨∃ g o cap,v=.slice (some ⟨g,o,none⟩) l.length cap∧l.length≤cap∧cap≤maxLen∧g≠br∧F=[br,g]∧g < w.heap.size∧∀ j u,(u8s l)[j]?=some u→w.cell? ⟨g,o+j,none⟩=some u)
theorem RdA.framed (br:Nat) (l:List UInt8) (e:Int):Framed (RdA br l e):=by
 refine⟨?_,?_⟩
 ·rintro w w' F ⟨v,hb,h⟩ hk
  rcases h with ⟨h1,h2,rfl⟩|⟨g,o,cap,h1,h2,h3,h4,rfl,h5,h6⟩
  ·exact⟨v,by rw [hk br (by simp)];exact hb,Or.inl ⟨h1,h2,rfl⟩⟩
  ·have hg:=hk g (by simp)
   refine⟨v,by rw [hk br (by simp)];exact hb,Or.inr ⟨g,o,cap,h1,h2,h3,h4,rfl,?_,fun j u hu=>by rw [World.cell?_of_block (a:=⟨g,o+j,none⟩) hg];exact h6 j u hu⟩⟩
   have:w.heap[g]?=some w.heap[g]:=Array.getElem?_eq_getElem h5
   exact hp_lt (hg.trans this)
 ·rintro w F ⟨v,hb,h⟩ b hbF
  rcases h with ⟨h1,h2,rfl⟩|⟨g,o,cap,h1,h2,h3,h4,rfl,h5,h6⟩
  ·simp at hbF;subst hbF;exact hp_lt hb
  ·simp at hbF
   rcases hbF with rfl | rfl
   ·exact hp_lt hb
   ·exact h5
def rdTake (l:List UInt8) (e:Int) (n:Nat):List UInt8×List UInt8×Int:=if e≠0 then ([],l,e) else if l.length < n then ([],[],2) else (l.take n,l.drop n,0)
def TakePost (br:Nat) (t:List UInt8×List UInt8×Int) (i:Nat) (F0:List Nat) (w0:World) (R:List Asrt) (e:Ending) (w':World):Prop:=
 ∃ A c,e=.returned (.slice A t.1.length c)∧(A=none→c=0∧t.1=[])∧Src w' A t.1.length 1 (u8s t.1)∧In F0 w0 w' (R.set i (RdA br t.2.1 t.2.2))
theorem run_pre_at (g o:Nat) (n cap i:Nat) (h1:i≤cap) (w:World):(Instr.slice 32 (.slice (some ⟨g,o,none⟩) n cap) none (some (.int .i64 i)) none).run Tryz.prog w=.ok (.slice (some ⟨g,o,none⟩) i cap) w:=
 run_prefix_at Tryz.underlying32 infoByte g o n cap i h1 w
theorem o_rtake {br:Nat} {e:Int} (h:In F0 w0 w R) (i:Nat) (hA:R[i]?=some (RdA br l e)) (n:Nat) (hn:n≤100000000) :
  Calls Tryz.prog 164 #[.pointer (some ⟨br,0,none⟩),.int .i64 n] w (TakePost br (rdTake l e n) i F0 w0 R):=by
 have hi:=(List.getElem?_eq_some_iff.1 hA).1
 obtain⟨F,v,hb,hv⟩:=h.get i hA
 have c1:w.cell? ⟨br,1,none⟩=some (.int .i64 e):=cell_of hb rfl
 have c0:w.cell? ⟨br,0,none⟩=some v:=cell_of hb rfl
 have f0:w.frozen? ⟨br,0,none⟩=false:=free_of hb
 have f1:w.frozen? ⟨br,1,none⟩=false:=free_of hb
 by_cases he:e=0
 ·subst he
  by_cases hlt:l.length < n
  ·have HE:Hid (TakePost br (rdTake l 0 n) i F0 w0 R (.returned (.slice none 0 0)) ((w.setCell ⟨br,1,none⟩ (.int .i64 2)).setCell ⟨br,0,none⟩ (.slice none 0 0))):=Lib.hid (by
    have e1:rdTake l 0 n=([],[],2):=by unfold rdTake;simp [hlt]
    rw [e1]
    refine⟨none,0,rfl,fun _=>⟨rfl,rfl⟩,Src.nil _ _ _,h.step i hA (RdA.framed _ _ _) fun F hF=>?_⟩
    obtain⟨v',hb',hv'⟩:=hF
    rw [hb] at hb';cases hb'
    have hbr:br∈F:=by rcases hv' with ⟨_,_,rfl⟩|⟨g,o,cap,_,_,_,_,rfl,_⟩ <;> simp
    refine⟨[br],⟨.slice none 0 0,?_,Or.inl ⟨rfl,rfl,rfl⟩⟩,fun b hb2=>by simp at hb2;subst hb2;exact Or.inl hbr,?_⟩
    ·have:=hp_setCell_same (o:=0) (v:=.slice none 0 0) (hp_setCell_same (o:=1) (v:=.int .i64 2) hb)
     simpa using this
    ·exact ((Mod.refl F w).setCell (Or.inl hbr) _).setCell (Or.inl hbr) _)
   have hlen:∃ a cap,v=.slice a l.length cap:=by
    rcases hv with ⟨rfl,rfl,_⟩|⟨g,o,cap,rfl,_⟩
    ·exact⟨none,0,rfl⟩
    ·exact⟨_,_,rfl⟩
   obtain⟨a,cap,rfl⟩:=hlen
   have d0:(w.setCell ⟨br,1,none⟩ (.int .i64 2)).cell? ⟨br,0,none⟩=some (.slice a l.length cap):=cell_of (hp_setCell_same (o:=1) (v:=.int .i64 2) hb) rfl
   have g0:(w.setCell ⟨br,1,none⟩ (.int .i64 2)).frozen? ⟨br,0,none⟩=false:=free_of (hp_setCell_same (o:=1) (v:=.int .i64 2) hb)
   clear h hA hb hv hi
   have hlt':(l.length:Int) < (n:Int):=by omega
   clear hlt
   go_enter Tryz.func164,Tryz.ntmps164
   go_wp2_with fail
   go_ret
   exact HE.out
  ·have e1:rdTake l 0 n=(l.take n,l.drop n,0):=by unfold rdTake;simp [hlt]
   have hge:n≤l.length:=by omega
   rcases hv with ⟨rfl,rfl,_⟩|⟨g,o,cap,rfl,h1,h2,h3,rfl,h4,h5⟩
   ·obtain rfl:n=0:=by simpa using hge
    have HE:Hid (TakePost br (rdTake [] 0 0) i F0 w0 R (.returned (.slice none 0 0)) (w.setCell ⟨br,0,none⟩ (.slice none 0 0))):=Lib.hid (by
     rw [e1]
     refine⟨none,0,rfl,fun _=>⟨rfl,rfl⟩,Src.nil _ _ _,h.step i hA (RdA.framed _ _ _) fun F hF=>?_⟩
     obtain⟨v',hb',hv'⟩:=hF
     rw [hb] at hb';cases hb'
     have hbr:br∈F:=by rcases hv' with ⟨_,_,rfl⟩|⟨g,o,cap,_,_,_,_,rfl,_⟩ <;> simp
     refine⟨[br],⟨.slice none 0 0,?_,Or.inl ⟨rfl,rfl,rfl⟩⟩,fun b hb2=>by simp at hb2;subst hb2;exact Or.inl hbr,(Mod.refl F w).setCell (Or.inl hbr) _⟩
     have:=hp_setCell_same (o:=0) (v:=.slice none 0 0) hb
     simpa using this)
    have r1:(Instr.slice 32 (.slice none 0 0) none (some (.int .i64 0)) none).run Tryz.prog w=.ok (.slice none 0 0) w:=run_prefix_none Tryz.underlying32 infoByte 0 0 0 (Nat.le_refl _) w
    have r2:(Instr.slice 32 (.slice none 0 0) (some (.int .i64 0)) none none).run Tryz.prog w=.ok (.slice none 0 0) w:=run_suffix Tryz.underlying32 infoByte none 0 0 0 (Nat.le_refl _) w
    clear h hA hb hi hlt hge
    go_enter Tryz.func164,Tryz.ntmps164
    go_wp2_with fail
    go_ret
    exact HE.out
   ·have HE:Hid (TakePost br (rdTake l 0 n) i F0 w0 R (.returned (.slice (some ⟨g,o,none⟩) n cap)) (w.setCell ⟨br,0,none⟩ (.slice (sufA (some ⟨g,o,none⟩) cap n 1) (l.length - n:Nat) (cap - n)))):=Lib.hid (by
     rw [e1]
     have hln:(l.take n).length=n:=by rw [List.length_take];omega
     have hset:=fun (u:Value)=>hp_setCell_same (o:=0) (v:=u) hb
     have hoth:∀ (u:Value) k,(w.setCell ⟨br,0,none⟩ u).cell? ⟨g,k,none⟩=w.cell? ⟨g,k,none⟩:=fun u k=>World.cell?_of_block (hp_setCell_other (a:=⟨br,0,none⟩) (v:=u) h3)
     refine⟨some ⟨g,o,none⟩,cap,by rw [hln],(fun e=>by cases e),⟨by rw [u8s_length,Nat.mul_one],fun h0=>⟨_,rfl,fun j u hu=>?_⟩⟩,h.step i hA (RdA.framed _ _ _) fun F hF=>?_⟩
     ·rw [add_at,hoth]
      rw [← u8s_take,List.getElem?_take] at hu
      split at hu
      ·exact h5 j u hu
      ·cases hu
     ·obtain⟨v',hb',hv'⟩:=hF
      rw [hb] at hb';cases hb'
      have hFF:F=[br,g]:=by
       rcases hv' with ⟨e,_⟩|⟨g',o',cap',e,_,_,_,rfl,_⟩
       ·cases e
       ·simp only [Value.slice.injEq,Option.some.injEq,Addr.mk.injEq] at e;rw [e.1.1]
      subst hFF
      have hcell:∀ (k j:Nat) (u:Value),(u8s (l.drop n))[j]?=some u→w.cell? ⟨g,o+(n+j),none⟩=some u:=fun k j u hu=>by
       rw [← u8s_drop,List.getElem?_drop] at hu
       exact h5 _ u hu
      refine⟨[br,g],⟨_,hset _,Or.inr ?_⟩,Grew.refl _ _,(Mod.refl _ w).setCell (Or.inl (by simp)) _⟩
      unfold sufA
      by_cases hc:cap=n
      ·refine⟨g,o,cap - n,by rw [if_pos hc,List.length_drop],by rw [List.length_drop];omega,by omega,h3,rfl,by simpa using h4,fun j u hu=>?_⟩
       rw [← u8s_drop,List.getElem?_drop] at hu
       have:n+j < (u8s l).length:=(List.getElem?_eq_some_iff.1 hu).1
       rw [u8s_length] at this;omega
      ·refine⟨g,o+n,cap - n,by rw [if_neg hc,List.length_drop];simp [add_at],by rw [List.length_drop];omega,by omega,h3,rfl,by simpa using h4,fun j u hu=>?_⟩
       rw [hoth,Nat.add_assoc]
       exact hcell 0 j u hu)
    have r1:=run_pre_at g o l.length cap n (by omega) w
    have r2:=run_suffix Tryz.underlying32 infoByte (some ⟨g,o,none⟩) l.length cap n hge w
    have hge':(n:Int)≤(l.length:Int):=by omega
    clear h hA hb hi hlt h5 e1
    generalize sufA (some ⟨g,o,none⟩) cap n 1=sa at *
    go_enter Tryz.func164,Tryz.ntmps164
    go_wp2_with fail
    go_ret
    exact HE.out
 ·have HE:Hid (TakePost br (rdTake l e n) i F0 w0 R (.returned (.slice none 0 0)) w):=Lib.hid (by
   have e1:rdTake l e n=([],l,e):=by unfold rdTake;rw [if_pos he]
   rw [e1]
   refine⟨none,0,rfl,fun _=>⟨rfl,rfl⟩,Src.nil _ _ _,?_⟩
   rwa [set_same hA])
  have q:(e != 0)=true:=by rw [bne_iff_ne];exact he
  clear h hA hb hv hi he
  go_enter Tryz.func164,Tryz.ntmps164
  go_wp2_with fail
  go_ret
  exact HE.out
def NumRel (bs:List UInt8) (n k:Value):Prop:=∃ i:Nat,i≤bs.length∧k=.int .i64 i∧n=.int .u64 (num (bs.take i))
theorem or_byte {m:Nat} (x:UInt8) (hm:m < 72057594037927936):bits .or .u64 ((m:Int) * 256) (x.toNat:Int)=((m * 256+x.toNat:Nat):Int):=by
 have hx:=x.toNat_lt
 rw [show ((m:Int) * 256)=((m * 256:Nat):Int) by omega]
 rw [bits_or_u64_nat _ _ (by omega) (by omega)]
 congr 1
 have e:m * 256=m <<< 8:=by rw [Nat.shiftLeft_eq]
 rw [e,← Nat.shiftLeft_add_eq_or_of_lt (by omega),← e]
def NumPost (br:Nat) (t:List UInt8×List UInt8×Int) (i:Nat) (F0:List Nat) (w0:World) (R:List Asrt) (e:Ending) (w':World):Prop:=
 e=.returned (.int .u64 (num t.1))∧In F0 w0 w' (R.set i (RdA br t.2.1 t.2.2))
theorem num_take_lt (bs:List UInt8) (i:Nat) (h:bs.length≤8) (hi:i < bs.length):num (bs.take i) < 72057594037927936:=by
 have h1:=num_lt (bs.take i)
 have h2:(bs.take i).length≤7:=by rw [List.length_take];omega
 have h3:256 ^ (bs.take i).length≤256 ^ 7:=Nat.pow_le_pow_right (by omega) h2
 omega
theorem rdTake_len (l:List UInt8) (e:Int) (n:Nat):(rdTake l e n).1.length≤n:=by
 unfold rdTake;split
 ·simp
 ·split
  ·simp
  ·rw [List.length_take];omega
theorem o_rnum {br:Nat} {e:Int} (h:In F0 w0 w R) (i:Nat) (hA:R[i]?=some (RdA br l e)) (n:Nat) (hn:n≤8) :
  Calls Tryz.prog 149 #[.pointer (some ⟨br,0,none⟩),.int .i64 n] w (NumPost br (rdTake l e n) i F0 w0 R):=by
 have HC:=Lib.hid (o_rtake h i hA n (by omega))
 have hl8:(rdTake l e n).1.length≤8:=Nat.le_trans (rdTake_len l e n) hn
 clear h hA
 go_enter Tryz.func149,Tryz.ntmps149
 go_wp2_with fail
 refine HC.out.mono ?_
 rintro e' w1 ⟨A,c,rfl,-,hs,ho⟩
 have HF:Hid (NumPost br (rdTake l e n) i F0 w0 R (.returned (.int .u64 (num (rdTake l e n).1))) w1):=Lib.hid ⟨rfl,ho⟩
 have SS:=Lib.hid hs
 clear hs ho HC
 generalize (rdTake l e n)=t at *
 obtain⟨bs,l',e''⟩:=t
 simp only at hl8 SS HF ⊢
 go_wp2_with fail
 go_loop [5,12] (NumRel bs) (fun _ k=>bs.length - (intOf k).toNat)
 case atStart=>exact⟨0,Nat.zero_le _,rfl,rfl⟩
 case round=>
  obtain⟨j,hj,rfl,rfl⟩:=hrel
  by_cases hlt:j < bs.length
  ·obtain⟨x,hx⟩:∃ x,bs[j]?=some x:=⟨bs[j],List.getElem?_eq_getElem hlt⟩
   obtain⟨ad,rfl,hc⟩:=SS.out.at' (by omega)
   have c0:=hc j (.int .u8 x.toNat) (by simp [u8s,hx])
   have hlt':(j:Int) < (bs.length:Int):=by omega
   have hm:=num_take_lt bs j hl8 hlt
   have HX:Hid (num (bs.take (j+1))=num (bs.take j) * 256+x.toNat):=Lib.hid (by rw [List.take_add_one,hx];exact num_snoc _ _)
   have hq:=or_byte x hm
   have hxl:=x.toNat_lt
   clear hx hc
   generalize num (bs.take j)=m at *
   generalize x.toNat=xn at *
   have q1:IntKind.u64.wrap ((m:Int) * 256)=((m * 256:Nat):Int):=by rw [IntKind.wrap_u64];omega
   go_wp2_with fail
   go_round
   case rel=>exact⟨j+1,by omega,by go_num,by rw [HX.out];go_num⟩
   case measure=>simp [intOf];omega
  ·have hjl:j=bs.length:=by omega
   subst hjl
   rw [List.take_length]
   go_wp2_with fail
   go_ret
   exact HF.out
section
variable {F0:List Nat} {w0 w:World} {R:List Asrt} {l:List UInt8} {br:Nat} {e:Int}
theorem num_lt_of {bs:List UInt8} {k:Nat} (h:bs.length≤k):num bs < 256 ^ k:=Nat.lt_of_lt_of_le (num_lt bs) (Nat.pow_le_pow_right (by omega) h)
def RdPost (v:Value) (br:Nat) (t:List UInt8×List UInt8×Int) (i:Nat) (F0:List Nat) (w0:World) (R:List Asrt) (e:Ending) (w':World):Prop:=
 e=.returned v∧In F0 w0 w' (R.set i (RdA br t.2.1 t.2.2))
theorem o_ru8 (h:In F0 w0 w R) (i:Nat) (hA:R[i]?=some (RdA br l e)) :
  Calls Tryz.prog 147 #[.pointer (some ⟨br,0,none⟩)] w (RdPost (.int .i64 (num (rdTake l e 1).1)) br (rdTake l e 1) i F0 w0 R):=by
 have HC:=Lib.hid (o_rnum h i hA 1 (by omega))
 have hlt:=num_lt_of (rdTake_len l e 1)
 clear h hA
 generalize rdTake l e 1=t at *
 have hlt':num t.1 < 256:=by simpa using hlt
 clear hlt
 go_enter Tryz.func147,Tryz.ntmps147
 go_wp2_with fail
 refine HC.out.mono ?_
 rintro e' w1 ⟨rfl,ho⟩
 have HO:=Lib.hid ho
 clear ho HC
 generalize num t.1=m at *
 go_wp2_with fail
 go_ret
 exact⟨rfl,HO.out⟩
theorem o_ru16 (h:In F0 w0 w R) (i:Nat) (hA:R[i]?=some (RdA br l e)) :
  Calls Tryz.prog 124 #[.pointer (some ⟨br,0,none⟩)] w (RdPost (.int .i64 (num (rdTake l e 2).1)) br (rdTake l e 2) i F0 w0 R):=by
 have HC:=Lib.hid (o_rnum h i hA 2 (by omega))
 have hlt:=num_lt_of (rdTake_len l e 2)
 clear h hA
 generalize rdTake l e 2=t at *
 have hlt':num t.1 < 65536:=by simpa using hlt
 clear hlt
 go_enter Tryz.func124,Tryz.ntmps124
 go_wp2_with fail
 refine HC.out.mono ?_
 rintro e' w1 ⟨rfl,ho⟩
 have HO:=Lib.hid ho
 clear ho HC
 generalize num t.1=m at *
 go_wp2_with fail
 go_ret
 exact⟨rfl,HO.out⟩
theorem o_ru32 (h:In F0 w0 w R) (i:Nat) (hA:R[i]?=some (RdA br l e)) :
  Calls Tryz.prog 123 #[.pointer (some ⟨br,0,none⟩)] w (RdPost (.int .u32 (num (rdTake l e 4).1)) br (rdTake l e 4) i F0 w0 R):=by
 have HC:=Lib.hid (o_rnum h i hA 4 (by omega))
 have hlt:=num_lt_of (rdTake_len l e 4)
 clear h hA
 generalize rdTake l e 4=t at *
 have hlt':num t.1 < 4294967296:=by simpa using hlt
 clear hlt
 go_enter Tryz.func123,Tryz.ntmps123
 go_wp2_with fail
 refine HC.out.mono ?_
 rintro e' w1 ⟨rfl,ho⟩
 have HO:=Lib.hid ho
 clear ho HC
 generalize num t.1=m at *
 go_wp2_with fail
 go_ret
 exact⟨rfl,HO.out⟩
theorem o_clone (h:In F0 w0 w R) {A:Option Addr} {c:Nat} {bs:List UInt8} (hn:A=none→c=0∧bs=[]) (hs:Src w A bs.length 1 (u8s bs)) (hl:bs.length≤100000000) :
  Calls Tryz.prog 51 #[.slice A bs.length c] w fun e w'=>∃ v,e=.returned v∧In F0 w0 w' (RowA 5 1 v bs.length (u8s bs)::R):=by
 cases A with
 | none=>obtain⟨rfl,rfl⟩:=hn rfl;exact clone_none h
 | some ad=>exact clone_some h hs hl
def RawPost (br:Nat) (t:List UInt8×List UInt8×Int) (i:Nat) (F0:List Nat) (w0:World) (R:List Asrt) (e:Ending) (w':World):Prop:=
 ∃ v,e=.returned v∧In F0 w0 w' (RowA 5 1 v t.1.length (u8s t.1)::R.set i (RdA br t.2.1 t.2.2))
theorem o_rraw (h:In F0 w0 w R) (i:Nat) (hA:R[i]?=some (RdA br l e)) (n:Nat) (hn:n≤100000000) :
  Calls Tryz.prog 146 #[.pointer (some ⟨br,0,none⟩),.int .i64 n] w (RawPost br (rdTake l e n) i F0 w0 R):=by
 have HC:=Lib.hid (o_rtake h i hA n hn)
 have hlt:=rdTake_len l e n
 clear h hA
 generalize rdTake l e n=t at *
 go_enter Tryz.func146,Tryz.ntmps146
 go_wp2_with fail
 refine HC.out.mono ?_
 rintro e' w1 ⟨A,c,rfl,hn,hs,ho⟩
 have H2:=Lib.hid (o_clone (c:=c) ho hn hs (by omega))
 clear ho hn hs HC
 go_wp2_with fail
 refine H2.out.mono ?_
 rintro e' w2 ⟨v,rfl,ho⟩
 have HF:Hid (RawPost br t i F0 w0 R (.returned v) w2):=Lib.hid ⟨v,rfl,ho⟩
 clear ho H2
 go_wp2_with fail
 go_ret
 exact HF.out
def endE (l:List UInt8) (e:Int):Int:=if e=0 then (if l=[] then 0 else 3) else e
theorem o_rend (h:In F0 w0 w R) (i:Nat) (hA:R[i]?=some (RdA br l e)) (hl:l.length≤100000000):Calls Tryz.prog 125 #[.pointer (some ⟨br,0,none⟩)] w fun e' w'=>e'=.returned (.int .i64 (endE l e))∧w'=w:=by
 obtain⟨F,v,hb,hv⟩:=h.get i hA
 have c0:w.cell? ⟨br,0,none⟩=some v:=cell_of hb rfl
 have c1:w.cell? ⟨br,1,none⟩=some (.int .i64 e):=cell_of hb rfl
 have hlen:∃ a cap,v=.slice a l.length cap:=by
  rcases hv with ⟨rfl,rfl,_⟩|⟨g,o,cap,rfl,_⟩
  ·exact⟨none,0,rfl⟩
  ·exact⟨_,_,rfl⟩
 obtain⟨a,cap,rfl⟩:=hlen
 clear h hA hb hv
 by_cases he:e=0
 ·subst he
  by_cases hn:l=[]
  ·have HE:Hid (endE l 0=0):=Lib.hid (by simp [endE,hn])
   have h0:decide (0 < l.length)=false:=by simp [hn]
   clear hn
   generalize l.length=n at *
   go_enter Tryz.func125,Tryz.ntmps125
   go_wp2_with fail
   go_ret
   exact⟨by rw [HE.out];rfl,rfl⟩
  ·have HE:Hid (endE l 0=3):=Lib.hid (by simp [endE,hn])
   have h0:decide (0 < l.length)=true:=by simpa using List.length_pos_iff.2 hn
   clear hn
   generalize l.length=n at *
   go_enter Tryz.func125,Tryz.ntmps125
   go_wp2_with fail
   go_ret
   exact⟨by rw [HE.out];rfl,rfl⟩
 ·have HE:Hid (endE l e=e):=Lib.hid (by simp [endE,he])
  have q:(e == 0)=false:=beq_eq_false_iff_ne.2 he
  clear he
  go_enter Tryz.func125,Tryz.ntmps125
  go_wp2_with fail
  go_ret
  exact⟨by rw [HE.out];rfl,rfl⟩
theorem rd_of_row {g:Nat} {v:Value} {bs:List UInt8} (h:In F0 w0 w (Cells g #[v,.int .i64 0] 168::RowA 5 1 v bs.length (u8s bs)::R)):In F0 w0 w (RdA g bs 0::R):=by
 have h1:=In.join (A1:=[Cells g #[v,.int .i64 0] 168,RowA 5 1 v bs.length (u8s bs)]) (R:=R) h
 refine h1.imp (A':=RdA g bs 0) 0 rfl (RdA.framed _ _ _) fun F hF=>?_
 obtain⟨F1,F2,⟨rfl,h2⟩,⟨F3,F4,h3,rfl,_,rfl⟩,h4,rfl⟩:=hF
 obtain⟨a,cap,rfl,k1,k2,k3⟩:=h3.shape
 refine⟨_,h2,?_⟩
 obtain⟨h5,h6⟩:=h3
 rcases h6.2 with h7 | ⟨g',c,cur,e,_,hb,_⟩
 ·left
  refine⟨h7.1,List.length_eq_zero_iff.1 h7.2,?_⟩
  rw [h5,h7.1];simp [Value.ownBlock]
 ·right
  cases e
  refine⟨g',0,cap,rfl,k1,k2,?_,?_,hp_lt hb,fun j u hu=>?_⟩
  ·rintro rfl
   exact h4 g' (by simp) (by rw [h5];simp [Value.ownBlock])
  ·rw [h5];simp [Value.ownBlock]
  ·obtain⟨b,e,hc⟩:=k3 j u hu
   cases e
   rw [Nat.zero_add];exact hc
theorem o_rnew (h:In F0 w0 w R) {A:Option Addr} {c:Nat} {bs:List UInt8} (hn:A=none→c=0∧bs=[]) (hs:Src w A bs.length 1 (u8s bs)) (hl:bs.length≤100000000) :
  Calls Tryz.prog 122 #[.slice A bs.length c] w fun e w'=>∃ br,e=.returned (.pointer (some ⟨br,0,none⟩))∧In F0 w0 w' (RdA br bs 0::R):=by
 have HC:=Lib.hid (o_clone (c:=c) h hn hs hl)
 clear h hn hs
 go_enter Tryz.func122,Tryz.ntmps122
 go_wp2_with fail
 refine HC.out.mono ?_
 rintro e' w1 ⟨v,rfl,ho⟩
 obtain⟨F,hr⟩:=ho.get 0 rfl
 obtain⟨a,cap,rfl,-,-,-⟩:=hr.shape
 have h2:=rd_of_row (ho.cells #[.slice a bs.length cap,.int .i64 0] 168)
 have H2:=Lib.hid h2
 clear ho h2 hr HC
 go_wp2_with fail
 go_ret
 exact⟨_,rfl,H2.out⟩
theorem bclone_some (h:In F0 w0 w R) {ad:Addr} {n c:Nat} {l:List UInt8} (hs:Src w (some ad) n 1 (u8s l)) (hn:n≤100000000) :
  Calls Tryz.prog 148 #[.slice (some ad) n c] w fun e w'=>∃ v,e=.returned v∧In F0 w0 w' (RowA 5 1 v n (u8s l)::R):=by
 have HH:=Lib.hid h
 have HS:=Lib.hid hs
 clear h hs
 have hq:∀ (w:World) (a:Option Addr) (n c n' c':Nat),(binOp .eql 32 (.slice a n c) (.slice none n' c')).run Tryz.prog w=.ok (.bool a.isNone) w:=fun w a n c n' c'=>Lib.run_eql_slice_nil w _ _ a n c n' c' Tryz.underlying32
 go_enter Tryz.func148,Tryz.ntmps148
 go_wp2_with (at_builtin;refine app_list rfl ((HH.out.cells #[] 5).row0 (k:=1) 0 rfl) 0 rfl (.tmp 5) (.tmp 6) 32 (by rfl) Tryz.underlying32 infoByte (by decide) (by decide) (by rfl) (by rfl) (src_alloc HS.out _) (u8s_one _) (by omega) ?_)
 intro v' w3 ho hg
 have HO:=Lib.hid ho
 clear ho hg
 go_wp2_with fail
 go_ret
 exact⟨_,rfl,HO.out⟩
end
end
def CrcRel (bs:List UInt8) (c k:Value):Prop:=∃ i:Nat,i≤bs.length∧k=.int .i64 i∧c=.int .u32 (crcFrom 0xffffffff (bs.take i))
def BitRel (c0:Nat) (c k:Value):Prop:=∃ j:Nat,j≤8∧k=.int .i64 j∧c=.int .u32 (crcBits j c0)
theorem bits_xor_u32 (a b:Nat) (ha:a < 4294967296) (hb:b < 4294967296):bits .xor .u32 (a:Int) (b:Int)=((a ^^^ b:Nat):Int):=by
 have hx:a ^^^ b < 2 ^ 32:=Nat.xor_lt_two_pow (by omega) (by omega)
 have h1:(BitVec.ofInt 32 (a:Int)).toNat=a:=by
  rw [BitVec.ofInt_natCast,BitVec.toNat_ofNat];exact Nat.mod_eq_of_lt (by omega)
 have h2:(BitVec.ofInt 32 (b:Int)).toNat=b:=by
  rw [BitVec.ofInt_natCast,BitVec.toNat_ofNat];exact Nat.mod_eq_of_lt (by omega)
 show IntKind.u32.wrap ((BitVec.ofInt 32 (a:Int) ^^^ BitVec.ofInt 32 (b:Int)).toNat:Int)=_
 rw [BitVec.toNat_xor,h1,h2]
 rw [show ∀ n,IntKind.u32.wrap n=n % 4294967296 from fun n=>by simp [IntKind.wrap,IntKind.bits,IntKind.signed]]
 omega
theorem bits_and_u32 (a b:Nat) (ha:a < 4294967296) (hb:b < 4294967296):bits .and .u32 (a:Int) (b:Int)=((a &&& b:Nat):Int):=by
 have hx:a &&& b < 2 ^ 32:=Nat.and_lt_two_pow _ (by omega)
 have h1:(BitVec.ofInt 32 (a:Int)).toNat=a:=by
  rw [BitVec.ofInt_natCast,BitVec.toNat_ofNat];exact Nat.mod_eq_of_lt (by omega)
 have h2:(BitVec.ofInt 32 (b:Int)).toNat=b:=by
  rw [BitVec.ofInt_natCast,BitVec.toNat_ofNat];exact Nat.mod_eq_of_lt (by omega)
 show IntKind.u32.wrap ((BitVec.ofInt 32 (a:Int) &&& BitVec.ofInt 32 (b:Int)).toNat:Int)=_
 rw [BitVec.toNat_and,h1,h2]
 rw [show ∀ n,IntKind.u32.wrap n=n % 4294967296 from fun n=>by simp [IntKind.wrap,IntKind.bits,IntKind.signed]]
 omega
theorem and_one {c:Nat} (hc:c < 4294967296):bits .and .u32 (c:Int) 1=((c % 2:Nat):Int):=by
 have:=bits_and_u32 c 1 hc (by omega)
 rw [Nat.and_one_is_mod] at this
 exact this
theorem xor_poly {c:Nat} (hc:c < 4294967296):bits .xor .u32 ((c:Int) / 2) 2197175160=((c / 2 ^^^ 0x82f63b78:Nat):Int):=by
 have:=bits_xor_u32 (c / 2) 0x82f63b78 (by omega) (by omega)
 rwa [show (((c / 2:Nat):Nat):Int)=(c:Int) / 2 by omega] at this
theorem crc_call {w:World} {A:Option Addr} {bs:List UInt8} {c:Nat} (h:Src w A bs.length 1 (u8s bs)) (hl:bs.length≤100000000) :
  Calls Tryz.prog 109 #[.slice A bs.length c] w fun e w'=>e=.returned (.int .u32 (crc bs))∧w'=w:=by
 have H:=Lib.hid h
 clear h
 go_enter Tryz.func109,Tryz.ntmps109
 go_wp2_with fail
 go_loop [3,9] (CrcRel bs) (fun _ k=>bs.length - (intOf k).toNat)
 case atStart=>exact⟨0,Nat.zero_le _,rfl,rfl⟩
 case round=>
  obtain⟨i,hi,rfl,rfl⟩:=hrel
  have hc32:=crcFrom_lt (bs.take i) (c:=0xffffffff) (by omega)
  by_cases hlt:i < bs.length
  ·obtain⟨x,hx⟩:∃ x,bs[i]?=some x:=⟨bs[i],List.getElem?_eq_getElem hlt⟩
   obtain⟨ad,rfl,hc⟩:=H.out.at' (by omega)
   have c0:=hc i (.int .u8 x.toNat) (by simp [u8s,hx])
   have hlt':(i:Int) < (bs.length:Int):=by omega
   have HX:Hid (crcFrom 0xffffffff (bs.take (i+1))=crcBits 8 (crcFrom 0xffffffff (bs.take i) ^^^ x.toNat)):=Lib.hid (by
    rw [List.take_add_one,hx];exact crcFrom_snoc _ _ _)
   have hq:=bits_xor_u32 _ x.toNat hc32 (by have:=x.toNat_lt;omega)
   have hb:crcFrom 0xffffffff (bs.take i) ^^^ x.toNat < 4294967296:=xor_lt32 hc32 (by have:=x.toNat_lt;omega)
   have hxl:=x.toNat_lt
   clear hx hc
   generalize crcFrom 0xffffffff (bs.take i)=c0' at *
   generalize (x.toNat)=xn at *
   go_wp2_with fail
   go_loop [3,17] (BitRel (c0' ^^^ xn)) (fun _ k=>8 - (intOf k).toNat)
   case atStart=>exact⟨0,by omega,rfl,by simp [crcBits]⟩
   case round=>
    obtain⟨j,hj,rfl,rfl⟩:=hrel
    have hcb:=crcBits_lt j hb
    have HS:=Lib.hid (crcBits_succ j (c0' ^^^ xn))
    clear hq
    by_cases hjl:j < 8
    ·have q1:=and_one hcb
     have q2:=xor_poly hcb
     generalize crcBits j (c0' ^^^ xn)=cj at *
     have hjl':(j:Int) < 8:=by omega
     by_cases h2:cj % 2=1
     ·have HB:Hid (crcBit cj=(cj / 2) ^^^ 0x82f63b78):=Lib.hid (by rw [crcBit,if_pos h2])
      have q3:(((cj % 2:Nat):Int) == 1)=true:=by rw [h2];rfl
      clear h2
      go_wp2_with fail
      go_round
      case rel=>exact⟨j+1,by omega,by go_num,by rw [HS.out,HB.out]⟩
      case measure=>simp [intOf];omega
     ·have HB:Hid (crcBit cj=cj / 2):=Lib.hid (by rw [crcBit,if_neg h2])
      have q3:(((cj % 2:Nat):Int) == 1)=false:=by rw [beq_eq_false_iff_ne];omega
      clear h2
      go_wp2_with fail
      go_round
      case rel=>exact⟨j+1,by omega,by go_num,by rw [HS.out,HB.out];simp⟩
      case measure=>simp [intOf];omega
    ·obtain rfl:j=8:=by omega
     go_wp2_with fail
     go_round
     case rel=>exact⟨i+1,by omega,by go_num,by rw [HX.out]⟩
     case measure=>simp [intOf];omega
  ·have hil:i=bs.length:=by omega
   subst hil
   have hq:=bits_xor_u32 4294967295 (crcFrom 0xffffffff (bs.take bs.length)) (by omega) hc32
   have HE:Hid (crc bs=crcFrom 0xffffffff (bs.take bs.length) ^^^ 4294967295):=Lib.hid (by rw [List.take_length];rfl)
   have hb:=crcFrom_lt (bs.take bs.length) (c:=0xffffffff) (by omega)
   generalize crcFrom 0xffffffff (bs.take bs.length)=cc at *
   go_wp2_with fail
   go_ret
   refine⟨?_,rfl⟩
   rw [HE.out]
   show Ending.returned (.int .u32 (bits .xor .u32 IntKind.u32.max (cc:Int)))=_
   rw [show IntKind.u32.max=((4294967295:Nat):Int) by rfl,hq,Nat.xor_comm]
end Go.Proofs.YtaopfagclnocdaaGreatDoor
