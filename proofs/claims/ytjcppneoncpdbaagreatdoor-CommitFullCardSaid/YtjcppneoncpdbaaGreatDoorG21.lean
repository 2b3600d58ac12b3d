import Derived.RangeFuncNested
import Derived.Test.YtjcppneoncpdbaaGreatDoorG20
namespace Go.Proofs.YtjcppneoncpdbaaGreatDoor
open Go.RowKit
def Kw(w:World)(b:Nat):Prop:=∃o,w.heap[b]? =some o/\o.isCells=true
theorem cells_of_cell{w:World}{a:Addr}{v:Value}(h:w.cell? a=some v):Kw w a.block:=by
 unfold World.cell? at h;cases ho:w.heap[a.block]? with
 | none=>simp [ho]at h
 | some o=>
   refine⟨o,ho,?_⟩;cases o with
   | cells=>rfl
   | _=>simp [ho]at h
theorem Gw{w:World}{b:Nat}{e:TypeId}{xs:List Value}(h:BH w b e xs):Kw w b:=⟨_,h,rfl⟩
theorem cells_of_row{w:World}{base n k:Nat}{e:TypeId}{v:Value}{xs:List Value}(h:w.ownsRow base e k v n xs){b:Nat}(hb:v.ownBlock=some b):Kw w b:=by
 rcases h.2 with⟨h1,_⟩| ⟨g,cap,cur,h1,_,h3,_⟩
 ·subst h1;cases hb
 ·subst h1;simp only [Value.ownBlock,Option.some.injEq]at hb;subst hb;exact⟨_,h3,rfl⟩
theorem GU.cells{len:Nat->Nat}{w:World}{d p L:Nat}{s:St}{F:Nat->Prop}(h:GU len w d p L s F){b:Nat}(hb:F b):Kw w b:=by
 obtain⟨tb,hbl,m,cT,cH,own,hr,hF⟩:=h;obtain⟨g,hbk,hd,ho⟩:=hr.dev;rcases(hF b).1 hb with h1| rfl| rfl| rfl
 ·rcases(ho b).1 h1 with rfl| rfl| ⟨i,hi,h2⟩
  ·obtain⟨st,hbx⟩:=hd.box;exact Gw hbx
  ·obtain⟨cur,hg,_⟩:=hd.blk;exact⟨_,hg,rfl⟩
  ·obtain⟨cur,_,_,_,hc⟩:=hd.blk;obtain⟨A,c,_,_,hch⟩:=hc i hi;rcases hch with⟨h3,_⟩| ⟨hh,xs,h3,hA,hrow,_⟩
   ·rw [h2]at h3;cases h3
   ·rw [h2]at h3;injection h3 with h3
    subst h3;exact cells_of_row hrow (by rw [hA];rfl)
 ·exact Gw hr.box
 ·obtain⟨cur,hc,_⟩:=hr.tk;exact⟨_,hc,rfl⟩
 ·obtain⟨cur,hc,_⟩:=hr.hd;exact⟨_,hc,rfl⟩
def UT:List TypeId:=[105,102,107,131,23]
theorem GU.type{len:Nat->Nat}{w:World}{d p L:Nat}{s:St}{F:Nat->Prop}(h:GU len w d p L s F){b:Nat}(hb:F b):∃cur e fz,w.heap[b]? =some (.cells cur e fz)/\e∈UT:=by
 obtain⟨tb,hbl,m,cT,cH,own,hr,hF⟩:=h;obtain⟨g,hbk,hd,ho⟩:=hr.dev;rcases(hF b).1 hb with h1| rfl| rfl| rfl
 ·rcases(ho b).1 h1 with rfl| rfl| ⟨i,hi,h2⟩
  ·obtain⟨st,hbx⟩:=hd.box;exact⟨_,_,_,hbx,by simp [UT]⟩
  ·obtain⟨cur,hg,_⟩:=hd.blk;exact⟨_,_,_,hg,by simp [UT]⟩
  ·obtain⟨cur,_,_,_,hc⟩:=hd.blk;obtain⟨A,c,_,_,hch⟩:=hc i hi;rcases hch with⟨h3,_⟩| ⟨hh,xs,h3,hA,hrow,_⟩
   ·rw [h2]at h3;cases h3
   ·rw [h2]at h3;injection h3 with h3
    subst h3;rcases hrow.2 with⟨h4,_⟩| ⟨g4,cap,Amw,h4,_,h5,_⟩
    ·rw [hA]at h4;cases h4
    ·rw [hA]at h4;simp only [Value.slice.injEq,Option.some.injEq,Addr.mk.injEq,and_true]at h4;exact⟨_,_,_,h4.1▸h5,by simp [UT]⟩
 ·exact⟨_,_,_,hr.box,by simp [UT]⟩
 ·obtain⟨cur,hc,_⟩:=hr.tk;exact⟨_,_,_,hc,by simp [UT]⟩
 ·obtain⟨cur,hc,_⟩:=hr.hd;exact⟨_,_,_,hc,by simp [UT]⟩
theorem GU.bG{len:Nat->Nat}{w:World}{d p L:Nat}{s:St}{F:Nat->Prop}(h:GU len w d p L s F){b:Nat}{e:TypeId}{xs:List Value}(hb:BH w b e xs)(he:e∉UT):¬F b:=fun hf=>by
 obtain⟨cur,e',fz,h1,h2⟩:=h.type hf;rw [show w.heap[b]? =_ from hb]at h1;injection h1 with h1
 injection h1 with _ h1 _
 exact he (h1▸h2)
theorem Tabs.cells{w:World}(h:Tabs w):Kw w 0/\Kw w 1:=
 ⟨cells_of_cell (h.fours 0 (by decide)),cells_of_cell (h.au 0 (by decide))⟩
section
variable{w w':World}{base jb x d p L:Nat}{s:St}{stamp:UInt64}{vs:Value}{l:List Wr}{ps:List (UInt64×UInt64)}{over:Bool}{en:Int}{F:Nat->Prop}{v:Value}{row:Option Nat}
theorem Js(hg:w.grownBy w' row):Touch (fun b=>row=some b) w w':=Touch.Wv hg (fun _ e=>e)
theorem Gv.abide(h:Gv w base jb x d p L s stamp vs l ps over en F v)(hg:w.grownBy w' row)(hr:∀r,row=some r->¬Kw w r):Gv w' base jb x d p L s stamp vs l ps over en F v:=by
 have t:=Js hg;have no:∀b,Kw w b->¬row=some b:=fun b hc e=>hr b e hc
 refine⟨⟨h.ix.sys.keep t (fun b hb=>no b (h.ix.sys.cells hb)) (no _ h.ix.sys.tabs.cells.1) (no _ h.ix.sys.tabs.cells.2),h.ix.box.touch t (no _ (Gw h.ix.box)),h.ix.out⟩,h.box.touch t (no _ (Gw h.box)),Gf h.row t (fun b hb=>no b (cells_of_row h.row hb)),?_,h.fj,h.bj,h.bx,h.bt,h.mj,h.mF⟩;obtain⟨A,c,e,hc,hrd,hG⟩:=h.set;refine⟨A,c,e,hc,?_,hG⟩;by_cases hn:0<l.length*3
 ·refine Rd.touch hrd t (fun a ea=>no _ ?_);obtain⟨b,off,e2,_,hcl⟩:=hrd.2 hn;rw [ea]at e2;injection e2 with e2
  subst e2;have h0:=hcl 0 hn;rw [List.getElem?_eq_getElem (by rw [KJ];exact hn)]at h0;exact cells_of_cell h0
 ·exact⟨hrd.1,fun h=>absurd h hn⟩
end
end Go.Proofs.YtjcppneoncpdbaaGreatDoor
