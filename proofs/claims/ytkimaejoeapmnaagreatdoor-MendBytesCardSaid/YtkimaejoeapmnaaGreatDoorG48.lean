import Derived.Test.YtkimaejoeapmnaaGreatDoorG09
import Derived.Test.YtkimaejoeapmnaaGreatDoorG45
import Derived.Test.YtkimaejoeapmnaaGreatDoorG47
set_option maxHeartbeats 32000000
set_option maxRecDepth 100000
open Go.Lib renaming hid->Aa
open Nat renaming le_refl->Ad
open List renaming getElem?_cons_zero->Aj,getElem?_cons_succ->Az,getElem_toArray->Ap,getElem_cons_succ->Ah,getElem_cons_zero->Ag,setIfInBounds_toArray->Ae,set_cons_zero->Am,set_cons_succ->Aq
namespace Go.Proofs.YtkimaejoeapmnaaGreatDoor
open Go.RowKit
theorem ag{len:Mode}{w:World}{d L:Nat}{ws:Nat->UInt64}{own:Nat->Prop}(hL0:0<L)(hL:L<=1024)(hs:shapeOf L=none)(hu:len.lf≠0)(h:Dev w d L ws len (fun _=>0) own):
 Calls Tryz.prog 9 #[Aw d] w fun e w'=>e= .returned (.tuple #[.agg #[.int .i64 0,.int .i64 0,.int .i64 0,.int .i64 0],.int .i64 5])/\Below w.heap.size w w':=by
 obtain⟨N,hN⟩:∃N,N=L*64:=⟨_,rfl⟩;have ax:=Aa (fun W(h:Dev W d L ws len (fun _=>0) own)=>by have:=h.size hL;rw [<-hN]at this;exact this);have e1:(N:Int)/64=(L:Int):=by omega
 have t1:((L:Int)==0)=false:=by rw [beq_eq_false_iff_ne];omega
 have nC:=Aa (fun W=>PQ L W hL);have HV:Hid (ofV L= .tuple #[.agg #[.int .i64 0,.int .i64 0,.int .i64 0,.int .i64 0],.bool false]):=Aa (by rw [ofV,hs]);have B0:CG (w.alloc (.cells #[.int .i64 0,.int .i64 0,.int .i64 0,.int .i64 0] 35)) w.heap.size 35 [.int .i64 0,.int .i64 0,.int .i64 0,.int .i64 0]:=heap_alloc_new _ _;have hb0:Below w.heap.size w (w.alloc (.cells #[.int .i64 0,.int .i64 0,.int .i64 0,.int .i64 0] 35)):=(Below.refl _ _).alloc (Ad _) _;have HDb:=Aa (fun W(k:Below w.heap.size w W)=>(h.below k:Dev W d L ws len (fun _=>0) own));clear h hN hs;go_enter Tryz.func9,Tryz.ntmps9
 go_wp2_with fail
 obtain⟨W0,hW0⟩:∃W0,W0=w.alloc (.cells #[.int .i64 0,.int .i64 0,.int .i64 0,.int .i64 0] 35):=⟨_,rfl⟩;rw [<-hW0]at B0 hb0⊢;have hlt0:w.heap.size<W0.heap.size:=B0.lt;clear hW0;refine(ax.out _ (HDb.out _ hb0)).mono ?_;rintro e w'⟨rfl,rfl⟩;obtain⟨gd,hbd,hrd,hod⟩:=HDb.out _ hb0;have HG:=XR d L ws _ _ gd hbd 0 8 W0 hL0 hL hu hrd (by omega);rw [show((8*0:Nat):Int)=0 from rfl]at HG;have HG:=Aa HG;clear hrd hod
 go_wp2_with fail
 refine HG.out.mono ?_;rintro e w1⟨v1',rfl,ho1,hb1⟩;obtain⟨A1,c1,rfl,hc1,hr1⟩:=CO ho1;have HB1:=Aa (hb0.trans (hb1.mono hb0.size));have UQ:=Aa (B0.below hb1 hlt0);clear hb0 hb1 B0 ho1 hr1 HG
 go_wp2_with fail
 refine(nC.out _).mono ?_;rintro e w2⟨rfl,hb2⟩;rw [HV.out];have hb3:Below w2.heap.size w2 (w2.alloc (.cells #[.int .i64 0,.int .i64 0,.int .i64 0,.int .i64 0] 35)):=(Below.refl _ _).alloc (Ad _) _;have uU:=UQ.out.below hb2 UQ.out.lt;have YO:=uU.below hb3 uU.lt;have Eu:=HB1.out.trans (hb2.mono HB1.out.size);obtain⟨z0,z1,z2,z3,f0,f1,f2,f3⟩:=C9 YO;have rV:=Aa YO;have Jy:=Aa (Eu.trans (hb3.mono Eu.size));clear YO hb3 uU hb2 Eu UQ
 go_wp2_with fail
 have k9:=(((rV.out.AZ 0 (.int .i64 0)).AZ 1 (.int .i64 0)).AZ 2 (.int .i64 0)).AZ 3 (.int .i64 0);have b9:=(((Jy.out.setCell (p:=⟨w.heap.size,0,none⟩) (Ad _) (.int .i64 0)).setCell (p:=⟨w.heap.size,1,none⟩) (Ad _) (.int .i64 0)).setCell (p:=⟨w.heap.size,2,none⟩) (Ad _) (.int .i64 0)).setCell (p:=⟨w.heap.size,3,none⟩) (Ad _) (.int .i64 0);refine ND rfl w.heap.size k9 (.int .i64 5) rfl rfl ?_;exact⟨rfl,b9⟩
theorem xP{w:World}{d:Nat}(h:w.cell? ⟨d,3,none⟩=some (.int .i64 0)):Calls Tryz.prog 12 #[Aw d] w fun e w'=>e= .returned (.int .i64 0)/\w=w':=by
 go_enter Tryz.func12,Tryz.ntmps12
 go_wp2_with fail
 go_ret;exact⟨rfl,rfl⟩
theorem Adm(w:World):Calls Tryz.prog 10 #[.pointer none,.pointer none,.pointer none] w fun e w'=>e= .returned (.tuple #[.slice none 0 0,.int .i64 1])/\Below w.heap.size w w':=by
 have HS:=Aa (size_nil);go_enter Tryz.func10,Tryz.ntmps10
 go_wp2_with fail
 refine(HS.out _).mono ?_;rintro e w1⟨rfl,rfl⟩
 go_wp2_with fail
 go_ret2;exact⟨rfl,Below.refl _ _⟩
section
variable{w:World}{d L:Nat}{ws:Nat->UInt64}{own:Nat->Prop}{sh:Sh}
theorem Aab(hL0:0<L)(hL:L<=1024)(hn:∀sh,shapeOf L=some sh->wordsAt ws 0 8≠wordsOf sh)(h:Dev w d L ws M0 (fun _=>0) own)(hT:Tabs w):
 Calls Tryz.prog 9 #[Aw d] w fun e w'=>e= .returned (.tuple #[.agg #[.int .i64 0,.int .i64 0,.int .i64 0,.int .i64 0],.int .i64 5])/\Below w.heap.size w w':=by
 cases hs:shapeOf L with
 | none=>exact ag hL0 hL hs (by decide) h
 | some sh=>
   have:=S9 hL0 hL hs (by decide) h hT;unfold QZ at this;rw [if_neg (hn sh hs)]at this;exact this
theorem Akg(hL0:0<L)(hL:L<=1024)(hn:∀sh,shapeOf L=some sh->wordsAt ws 0 8≠wordsOf sh)(h:Dev w d L ws M0 (fun _=>0) own)(hT:Tabs w):
 Calls Tryz.prog 8 #[Aw d] w fun e w'=>e= .returned (.tuple #[.agg #[.pointer none,.pointer none,.int .u64 0],.int .i64 5])/\Below w.heap.size w w':=
 TU (er:=5) (by decide) (fun _ hW=>TT (er:=5) (by decide) (Aab hL0 hL hn (h.below hW) (hT.below hW)))
theorem rC{s:St}{r:List Int}(h:Nw s=some r):∃its met l,DU s=some (its,met)/\Fq s its (Dc met)=some l/\Gv (Dc l)=true/\r=Dc l:=by
 unfold Nw at h;split at h
 ·cases h
 ·rename_i its met hs;split at h
  ·cases h
  ·rename_i l hl;split at h
   ·rename_i ho;injection h with h
    exact⟨its,met,l,hs,hl,ho,h.symm⟩
   ·cases h
theorem Ahh(hL0:0<L)(hL:L<=200)(hs:shapeOf L=some sh)(hw:wordsAt ws 0 8=wordsOf sh)(h:Dev w d L ws M0 (fun _=>0) own)(hT:Tabs w)(g1:¬own 0)(g2:¬own 1):
 Calls Tryz.prog 8 #[Aw d] w fun e w'=>∃p x k c,e= .returned (.tuple #[.agg #[.pointer p,.pointer x,.int .u64 k],.int .i64 c])/\Touch own w w'/\∃ws' own',Dev w' d L ws' M0 (fun _=>0) own'/\Tabs w'/\wordsAt ws' 0 8=wordsOf sh:=by
 have hfew:sh.BI<=18:=by have:=(FI hs).fits;omega
 have key:∃(Y:Nat->Prop)(items:List Kv)(ch:List UInt8->List Lk),Uo ws sh->EW Y L (Ee ws sh) items ch:=by
  by_cases hok:Uo ws sh
  ·obtain⟨hall,⟨r,hr⟩,_⟩:=hok;obtain⟨its,met,l,h1,h2,h3,_⟩:=rC hr;obtain⟨items,ch,_,hst⟩:=Ade (rq hs (by omega) hall) qZ h1 h2 h3;exact⟨_,items,ch,fun _=>hst⟩
  ·exact⟨fun _=>False,[],fun _=>[],fun h=>absurd h hok⟩
 obtain⟨Y,items,ch,hst⟩:=key;refine(Adh hL0 (by omega) hs h hT g1 g2 hw hfew hst).mono ?_;rintro e w'(⟨_,rfl,hb⟩| ⟨_,p,x,F,s,items',rfl,hx,_,hlo,ht,_⟩)
 ·exact⟨none,none,0,5,rfl,Touch.of_below hb,ws,own,h.below hb,hT.below hb,hw⟩
 ·obtain⟨tb,hb,n,cT,cH,own',hr,_⟩:=hx.sys;refine⟨_,_,_,0,rfl,ht,s.ws,own',hr.dev.1,hr.tabs,?_⟩;rw [<-hw];apply List.ext_getElem
  ·simp [wordsAt]
  ·intro i h1 h2;rw [Gn,Gn];have:i<8:=by simpa [wordsAt]using h1
   exact hlo.2 _ (by omega) (by omega)
end
theorem Aac(l:List UInt8):∀k,64*k<=l.length->bu (yJ l) k=l.take (64*k)
 | 0,_=>by simp [bu]
 | k+1,h=>by
   rw [dV,Aac l k (by omega),mZ l k (by omega),show 64*(k+1)=64*k+64 by omega,List.take_add]
theorem Alc{w:World}{a:Addr}{n:Nat}{l:List UInt8}(c:Nat)(h:Bs w (some a) n l):(convert 22 9 (.slice (some a) n c)).run Tryz.prog w= .ok (.string ⟨l.toArray⟩) w:=by
 have hn:=h.len;subst hn;refine run_convert_bytes_back w 22 9 5 a c l Tryz.underlying22 Tryz.underlying5 Tryz.underlying9 fun j hj=> ?_
 obtain⟨_,b,off,e,_,hc⟩:=Bs.at h hj;injection e with e
 subst e;rw [<-hc];congr 1;simp [Addr.add]
theorem Aod{w:World}{d L:Nat}{l:List UInt8}{own:Nat->Prop}(h:Dev w d L (yJ l) M0 (fun _=>0) own)(hL0:0<L)(hL:L<=1024)(hl:l.length=64*L):
 Calls Tryz.prog 11 #[Aw d] w fun e w'=>∃g c,e= .returned (.slice (some g) l.length c)/\Bs w' (some g) l.length l/\Below w.heap.size w w':=by
 refine(Abu h hL0 hL).mono ?_;rintro e w'⟨v,rfl,ho,hb⟩;obtain⟨A,c,rfl,_,hr⟩:=DN ho;rw [Aac l L (by omega),<-hl,List.take_length,Nat.mul_one]at hr;obtain⟨b,off,rfl,_⟩:=hr.2 (by omega);exact⟨⟨b,off,none⟩,c,by rw [hl],hr,hb⟩
theorem Tryz.gy(w:World):(Op.equalIn 9999 26 (.pointer none) (.pointer none)).run Tryz.prog w= .ok true w/\(Op.equalIn 9999 27 (.pointer none) (.pointer none)).run Tryz.prog w= .ok true w:=⟨by kernel_rfl,by kernel_rfl⟩
theorem Tryz.Akh(w:World):(Op.equalIn 10000 30 (.agg #[.pointer none,.pointer none,.int .u64 0]) (.agg #[.pointer none,.pointer none,.int .u64 0])).run Tryz.prog w= .ok true w:=by
 have hS:Tryz.prog.underlying 30=some (.struct (Tryz.prog.fieldsOf 30)):=by kernel_rfl
 rw [show(10000:Nat)=9999+1 from rfl]
 first
  | rw [run_equalIn_agg w 9999 30 _ _ hS (by kernel_rfl)]
  | rw [run_equalIn_agg w 9999 30 _ _ hS (fun w=>by kernel_rfl)]
 have u1:=fun W=>(Tryz.gy W).1
 have u2:=fun W=>(Tryz.gy W).2
 have u3:=Tryz.underlying28;simp only [Program.fieldsOf,Tryz.underlying30];go_simp
def rD(w:World)(mb:Nat):Prop:=w.cell? ⟨mb,0,none⟩=some (.pointer none)/\w.cell? ⟨mb,1,none⟩=some (.pointer none)/\w.cell? ⟨mb,2,none⟩=some (.int .u64 0)
theorem bP (l : List UInt8) (A : Option Addr) (c : Nat) (w : World) (hc : l.length <= c) (h : Bs w A l.length l) (hT : Tabs w) :
    Calls Tryz.prog 3 #[.slice A l.length c] w fun e w' => e = .returned (.bool true) /\ Below w.heap.size w w' := by
  have XW := Aa (Aaa Akb (w := w) hT)
  have HT0 := Aa hT
  obtain ⟨n, hn⟩ : ∃ n, n = l.length := ⟨_, rfl⟩
  have HN := Aa hn
  have HBs := Aa h
  have jB := Aa hT.lt
  rw [<- hn] at hc ⊢
  clear h hT hn
  go_enter Tryz.func3, Tryz.ntmps3
  go_wp2_with fail
  refine XW.out.mono ?_
  rintro e w1 ⟨rfl, hb1⟩
  have HB1 := Aa hb1
  clear hb1 XW
  by_cases hbig : (12800 : Int) < (n : Int)
  · have t1 : decide ((12800 : Int) < (n : Int)) = true := decide_eq_true hbig
    go_wp2_with fail
    go_ret
    exact ⟨rfl, HB1.out⟩
  · have t1 : decide ((12800 : Int) < (n : Int)) = false := decide_eq_false hbig
    have nC := Aa (Ap0 l A c w1 (by have := HN.out; omega) (by have := HN.out; omega) (HBs.out.below HB1.out))
    rw [<- HN.out] at nC
    go_wp2_with fail
    refine nC.out.mono ?_
    rintro e w2 ⟨hb2, hp2⟩
    have HB2 := Aa (HB1.out.trans (hb2.mono HB1.out.size))
    have As1 := Aa hb2
    by_cases hd : l.length % 64 = 0 /\ l ≠ []
    · rw [if_pos hd] at hp2
      obtain ⟨d, g, rfl, hdr, hwd, hwg, hst⟩ := hp2
      obtain ⟨L, hL⟩ : ∃ L, L = l.length / 64 := ⟨_, rfl⟩
      rw [<- hL] at hdr
      have hL0 : 0 < L := by
        have : l.length ≠ 0 := fun e => hd.2 (List.eq_nil_of_length_eq_zero e)
        omega
      have hL2 : L <= 200 := by have := HN.out; omega
      have hlL : l.length = 64 * L := by omega
      have XI : Dev w2 d L (yJ l) M0 (fun _ => 0) (Df d L g (fun _ => none)) := ⟨g, fun _ => none, hdr, fun _ => Iff.rfl⟩
      have hT2 := HT0.out.below HB2.out
      have hown : ∀ b, Df d L g (fun _ => none) b -> w1.heap.size <= b := fun b hb => by
        rcases hb with rfl | rfl | ⟨i, _, e⟩
        · exact hwd
        · exact hwg
        · cases e
      by_cases hh : ∀ sh, shapeOf L = some sh -> wordsAt (yJ l) 0 8 ≠ wordsOf sh
      · have HMo := Aa (Akg hL0 (by omega) hh XI hT2)
        have HHo := Aa (fun W (k : Below w2.heap.size w2 W) => Aab hL0 (by omega) hh (XI.below k) (hT2.below k))
        have Aoe := Aa (fun W (k : Below w2.heap.size w2 W) => Aod (XI.below k) hL0 (by omega) hlL)
        have As2 := Aa (fun W (k : Below w2.heap.size w2 W) => xP ((World.cell?_of_block (w := w2) (k.block _ hdr.dlt)).trans hst))
        have HRn := Aa (fun W => Adm W)
        rw [<- HN.out] at Aoe
        obtain ⟨ab, ao, hA, hcell⟩ : ∃ ab ao, A = some ⟨ab, ao, none⟩ /\ True := by
          obtain ⟨_, b, off, e, _⟩ := Bs.at HBs.out (show 0 < l.length by omega)
          exact ⟨b, off, e, trivial⟩
        subst hA
        clear hd hdr hwd hwg hst XI hT2 hown hh hL hL0 hL2 hlL nC hb2 hcell HT0
        go_wp2_with fail
        refine HMo.out.mono ?_
        rintro e w3 ⟨rfl, hb3⟩
        obtain ⟨mb, hmb⟩ : ∃ mb, mb = w3.heap.size := ⟨_, rfl⟩
        obtain ⟨w4, hw4, hb4, -⟩ := FB w3 30 [.pointer none, .pointer none, .int .u64 0]
        have hB4 : CG w4 mb 30 [.pointer none, .pointer none, .int .u64 0] := by rw [hmb]; exact hw4 ▸ heap_alloc_new _ _
        have HB4 := Aa (hb3.trans (hb4.mono hb3.size))
        have oh := Aa hB4
        have y0 := hB4.cell 0
        have y1 := hB4.cell 1
        have y2 := hB4.cell 2
        have f0 := hB4.frozen 0
        have f1 := hB4.frozen 1
        have f2 := hB4.frozen 2
        simp only [Aj, Az] at y0 y1 y2
        rw [hw4, hmb] at y0 y1 y2 f0 f1 f2
        have aA := Aa hw4
        have Hmb := Aa hmb
        have kE := Aa (HHo.out _ HB4.out)
        clear HMo hb3 hb4 hB4 hw4 hmb HHo
        go_wp2_with fail
        rw [<- aA.out, <- Hmb.out]
        clear y0 y1 y2 f0 f1 f2
        refine kE.out.mono ?_
        rintro e w5 ⟨rfl, hb5⟩
        obtain ⟨w6, hw6, hb6, Nz⟩ := FB w5 35 [.int .i64 0, .int .i64 0, .int .i64 0, .int .i64 0]
        have KO := Aa (HB4.out.trans ((hb5.trans (hb6.mono hb5.size)).mono HB4.out.size))
        have Aof := Aa (hb5.trans (hb6.mono hb5.size))
        have y0 := Nz.cell 0
        have y1 := Nz.cell 1
        have y2 := Nz.cell 2
        have y3 := Nz.cell 3
        have f0 := Nz.frozen 0
        have f1 := Nz.frozen 1
        have f2 := Nz.frozen 2
        have f3 := Nz.frozen 3
        simp only [Aj, Az] at y0 y1 y2 y3
        rw [hw6] at y0 y1 y2 y3 f0 f1 f2 f3
        have HW6 := Aa hw6
        clear kE hb5 hb6 Nz hw6
        go_wp2_with fail
        rw [<- HW6.out]
        clear y0 y1 y2 y3 f0 f1 f2 f3
        refine (HRn.out _).mono ?_
        rintro e w7 ⟨rfl, hb7⟩
        have aY := Aa (KO.out.trans (hb7.mono KO.out.size))
        have HBe := Aa (HB2.out.trans (aY.out.mono HB2.out.size))
        have HMc : Hid (∀ W, Below w7.heap.size w7 W -> rD W mb) := Aa (fun W k => by
          have h1 := oh.out.below (Aof.out.trans (hb7.mono Aof.out.size)) oh.out.lt
          have h2 := h1.below k h1.lt
          exact ⟨h2.cell 0, h2.cell 1, h2.cell 2⟩)
        have As3 : Hid (Bs w7 (some ⟨ab, ao, none⟩) n l) := Aa (by
          have h1 := HBs.out.below HBe.out
          rw [<- HN.out] at h1
          exact h1)
        have HIm := Aa (fun W (k : Below w7.heap.size w7 W) => Aoe.out W (aY.out.trans (k.mono aY.out.size)))
        have OO := Aa (fun W (k : Below w7.heap.size w7 W) => As2.out W (aY.out.trans (k.mono aY.out.size)))
        have hMc := HMc.out w7 (Below.refl _ _)
        have hBs := As3.out
        clear hb7 Aoe As2 HRn Aof oh KO
        unfold rD at hMc
        go_wp2_with fail
        refine wp_region_held_drew (S := (fun w' => rD w' mb /\ Bs w' (some ⟨ab, ao, none⟩) n l)) (by kernel_rfl) ⟨hMc, hBs⟩ (fun hHeld => ?_)
        refine Ef 0 (.int .i64 5) hHeld ?_
        refine Ef 1 (.bool true) hHeld ?_
        refine Ef 2 (.bool true) hHeld ?_
        refine Ef 3 (.agg #[.pointer none, .pointer none, .int .u64 0]) hHeld (hy := fun w hSw => by obtain ⟨⟨s0, s1, s2⟩, s3⟩ := hSw; go_simp) ?_
        try simp only [Act.put, Ap, Ah, Ag, Ae, Am, Aq]
        refine Ef 4 (.agg #[.pointer none, .pointer none, .int .u64 0]) hHeld ?_
        refine Ef 5 (.bool true) hHeld (hy := fun w hSw => by clear hSw; have q1 := fun W => (Tryz.gy W).1; have q2 := fun W => (Tryz.gy W).2; go_simp) ?_
        refine Ef 6 (.bool true) hHeld ?_
        refine Ef 7 (.bool true) hHeld ?_
        try simp only [Act.put, Ap, Ah, Ag, Ae, Am, Aq]
        refine Ef 8 (Aw d) hHeld ?_
        refine Ef 11 (.slice (some ⟨ab, ao, none⟩) n c) hHeld ?_
        refine Ef 12 (.string ⟨l.toArray⟩) hHeld (hy := fun w hSw => by obtain ⟨s0, s3⟩ := hSw; have q := Alc (w := w) c s3; go_simp) ?_
        try simp only [Act.put, Ap, Ah, Ag, Ae, Am, Aq]
        refine wpAnyH_ready (rs := [9]) (by kernel_rfl) (by simp) ?_
        refine AllReadyH.cons rfl (fun K hK => ?_) AllReadyH.nil
        go_simp
        go_at_call 11
        refine (HIm.out _ ((Dr.drew _).below _)).mono ?_
        rintro e w8 ⟨gB, cB, rfl, hIB, hb8⟩
        have Aki : Below w7.heap.size w7 w8 := ((Dr.drew w7).below _).trans hb8
        refine hK.out _ _ (⟨HMc.out _ Aki, As3.out.below Aki⟩) (fun hHeld => ?_)
        clear hK K
        refine Tz (S' := fun w' => rD w' mb /\ Bs w' (some ⟨ab, ao, none⟩) n l /\ Bs w' (some gB) n l) (fun _ h => ⟨h.1, h.2.1⟩) _ _ _ _ ?_
        replace hHeld : rD w8 mb /\ Bs w8 (some ⟨ab, ao, none⟩) n l /\ Bs w8 (some gB) n l := ⟨hHeld.1, hHeld.2, hIB⟩
        try simp only [Act.put, Ap, Ah, Ag, Ae, Am, Aq]
        refine Ef 10 (.string ⟨l.toArray⟩) hHeld (hy := fun w hSw => by obtain ⟨⟨s0, s1, s2⟩, s3, s4⟩ := hSw; have q := Alc (w := w) cB s4; go_simp) ?_
        refine Ef 13 (.bool true) hHeld (hy := fun w hSw => by clear hSw; have q : ((⟨l.toArray⟩ : ByteArray) == ⟨l.toArray⟩) = true := (by rw [Afl]; simp); go_simp) ?_
        refine Ef 14 (.bool true) hHeld ?_
        refine Ef 15 (.bool true) hHeld ?_
        try simp only [Act.put, Ap, Ah, Ag, Ae, Am, Aq]
        refine Ef 16 (Aw d) hHeld ?_
        try simp only [Act.put, Ap, Ah, Ag, Ae, Am, Aq]
        refine wpAnyH_ready (rs := [17]) (by kernel_rfl) (by simp) ?_
        refine AllReadyH.cons rfl (fun K hK => ?_) AllReadyH.nil
        go_simp
        go_at_call 12
        refine (OO.out _ Aki).mono ?_
        rintro e w9 ⟨rfl, rfl⟩
        refine hK.out _ _ (hHeld) (fun hHeld => ?_)
        clear hK K
        try simp only [Act.put, Ap, Ah, Ag, Ae, Am, Aq]
        refine Ef 18 (.bool true) hHeld ?_
        refine Ef 19 (.bool true) hHeld ?_
        refine Ef 20 (.bool true) hHeld ?_
        refine Ef 21 (.int .i64 1) hHeld ?_
        try simp only [Act.put, Ap, Ah, Ag, Ae, Am, Aq]
        refine Ef 22 (.bool true) hHeld ?_
        refine Ef 23 (.bool true) hHeld ?_
        refine Ef 24 (.bool true) hHeld ?_
        try simp only [Act.put, Ap, Ah, Ag, Ae, Am, Aq]
        refine wpAnyH_done (by kernel_rfl) ?_ _
        go_wp2_with fail
        go_ret
        exact ⟨rfl, HBe.out.trans (Aki.mono HBe.out.size)⟩
      · have hsh : ∃ sh, shapeOf L = some sh /\ wordsAt (yJ l) 0 8 = wordsOf sh := by
          refine Classical.byContradiction fun hn => hh fun sh h1 h2 => hn ⟨sh, h1, h2⟩
        obtain ⟨sh, hsh, hws⟩ := hsh
        have HMo := Aa (Ahh hL0 hL2 hsh hws XI hT2 (fun h => by have := hown _ h; have := jB.out; have := HB1.out.size; omega) (fun h => by have := hown _ h; have := jB.out; have := HB1.out.size; omega))
        have HHo := Aa (fun W ws' own' (hD : Dev W d L ws' M0 (fun _ => 0) own') (hW : Tabs W) (he : wordsAt ws' 0 8 = wordsOf sh) => S9 (len := M0) hL0 (by omega) hsh (by decide) hD hW)
        have YU := Aa hown
        clear hd hdr hwd hwg hst XI hT2 hown hh hL hL0 hL2 hlL nC hb2 HT0 hsh hws
        go_wp2_with fail
        refine HMo.out.mono ?_
        rintro e w3 ⟨p, x, k, c3, rfl, ht3, ws', own', hD3, hT3, he3⟩
        have HB3 := Aa (HB1.out.trans ((As1.out.trans (ht3.below As1.out.size (fun b hb => YU.out b hb))).mono HB1.out.size))
        obtain ⟨w4, hw4, hb4, hB4⟩ := FB w3 30 [.pointer p, .pointer x, .int .u64 k]
        have HB4 := Aa (HB3.out.trans (hb4.mono HB3.out.size))
        have kE := HHo.out w4 ws' own' (hD3.below hb4) (hT3.below hb4) he3
        unfold QZ rW at kE
        rw [if_pos he3] at kE
        have kE := Aa kE
        have aA := Aa hw4
        clear HMo HHo hb4 hB4 hw4 ht3 hD3 hT3 he3
        go_wp2_with fail
        rw [<- aA.out]
        refine kE.out.mono ?_
        rintro e w5 ⟨rfl, hb5⟩
        have Jy := Aa (HB4.out.trans (hb5.mono HB4.out.size))
        clear kE hb5
        go_wp2_with fail
        go_ret
        exact ⟨rfl, Jy.out.alloc Jy.out.size _⟩
    · rw [if_neg hd] at hp2
      subst hp2
      have HMo := Aa (WY w2)
      clear nC hb2
      go_wp2_with fail
      refine HMo.out.mono ?_
      rintro e w3 ⟨rfl, hb3⟩
      have HB3 := Aa (HB2.out.trans (hb3.mono HB2.out.size))
      obtain ⟨w4, hw4, -, hB⟩ := FB w3 30 [.pointer none, .pointer none, .int .u64 0]
      have HB4 := Aa (HB3.out.trans ((hw4 ▸ (Below.refl _ _).alloc (Ad _) _ : Below w3.heap.size w3 w4).mono HB3.out.size))
      have y0 := hB.cell 0
      have y1 := hB.cell 1
      have y2 := hB.cell 2
      have f0 := hB.frozen 0
      have f1 := hB.frozen 1
      have f2 := hB.frozen 2
      simp only [Aj, Az] at y0 y1 y2
      rw [hw4] at y0 y1 y2 f0 f1 f2
      have aA := Aa hw4
      have qe := fun W => Tryz.Akh W
      have qe1 := fun W => (Tryz.gy W).1
      have qe2 := fun W => (Tryz.gy W).2
      clear HMo hb3 hB hw4
      go_wp2_with fail
      go_ret
      rw [<- aA.out]
      exact ⟨rfl, HB4.out⟩
