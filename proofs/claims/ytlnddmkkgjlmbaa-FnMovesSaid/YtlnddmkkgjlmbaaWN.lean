-- The kit's printed words, cut by a program of this session to what this claim comes to.
import Derived.Test.YtlnddmkkgjlmbaaWShare
namespace Go.Proofs.YtlnddmkkgjlmbaaW.PrintWords
open Go.RowKit
namespace Kd
def chunks (sz n:Nat) (inner:List Value):List (List Value):=(List.range n).map fun j=>(inner.drop (j*sz)).take sz
theorem EF (sz n:Nat) (inner:List Value):(chunks sz n inner).length=n:=by simp[chunks]
theorem RW {sz n:Nat} {inner:List Value} {j:Nat} (hj:j<n):(chunks sz n inner)[j]? =some ((inner.drop (j*sz)).take sz):=by simp[chunks,hj]
theorem JT {sz n:Nat} {inner:List Value} {j:Nat} {c:List Value} (h:(chunks sz n inner)[j]? =some c):c=(inner.drop (j*sz)).take sz:=by
 have hj:j<n:=by have:=(List.getElem?_eq_some_iff.1 h).1;rwa[EF]at this
 rw[RW hj]at h
 injection h with h
 exact h.symm
theorem OW {α:Type} {Rr:α->List Value->Prop} {sz:Nat} {xs:List α} {inner:List Value} (h:Av Rr sz xs inner) (hR: ∀x c,Rr x c->c.length=sz/\∀u∈c,u.oneCell'=true):Av (fun x cs=>cs=x/\cs.length=sz/\∀u∈cs,u.oneCell'=true) sz (chunks sz xs.length inner) inner:=by
 refine⟨by rw[EF];exact h.1,fun j p hj=>?_⟩
 have hjl:j<xs.length:=by have:=(List.getElem?_eq_some_iff.1 hj).1;rwa[EF]at this
 have hp:=JT hj
 exact⟨hp.symm,hR _ _ (h.2 j _ (List.getElem?_eq_getElem hjl))⟩
section
variable {α : Type} {d : Kd α} {e base n cc g : Nat} {ok ok' okp S : Nat → Prop} {w w1 W W1 : World} {A : Option Addr} {u v v1 : Value} {xs : List α} {x : α} {c : List Value}
def N {α:Type} (d:Kd α) (e:Nat) (w:World) (base:Nat) (ok:Nat->Prop) (v:Value) (xs:List α):Prop:=
 (∀k,v.ownBlock=some k->ok k)/\∃rows:List (List Value),rows.length=xs.length/\(raw d.sz).R e w base (fun k=>some k=v.ownBlock) v rows/\∀(j:Nat) (x:α) (c:List Value),xs[j]? =some x->rows[j]? =some c->FK d w (fun k=>ok k/\some k≠v.ownBlock) x c
theorem Rz {sz:Nat} {rows:List (List Value)} (h:(raw sz).R e w base ok v rows):(raw sz).R e w base (fun k=>some k=v.ownBlock) v rows:=DV rfl h
theorem R_N (h:d.R e w base ok v xs):N d e w base ok v xs:=by
 obtain⟨h0,inner,ho,hr⟩:=h
 refine⟨h0,chunks d.sz xs.length inner,EF _ _ _,⟨fun k hk=>hk.symm,inner,by rw[EF];exact ho,OW hr (fun x c hp=>⟨d.Ej (d.K_of_M hp),d.ES (d.K_of_M hp)⟩)⟩,fun j x c hx hc=>?_⟩
 rw[JT hc]
 exact UM (hr.2 j x hx)
theorem S_N (h:Kd.S d e w base ok v xs):N d e w base ok v xs:=R_N (SB h)
theorem Ii (d:Kd α) (e:Nat) (w:World) (base:Nat) (ok:Nat->Prop):N d e w base ok (.slice none 0 0) []:=R_N (Gn _ _ _ _ _)
theorem WU (h:N d e w base ok v xs) (hok: ∀k,ok k->ok' k):N d e w base ok' v xs:=by
 obtain⟨h0,rows,hl,hR,hf⟩:=h
 exact⟨fun k hk=>hok k (h0 k hk),rows,hl,hR,fun j x c hx hc=>QM (hf j x c hx hc) (fun k hk=>⟨hok k hk.1,hk.2⟩)⟩
theorem UQ {base':Nat} (h:N d e w base ok v xs) (hb:base'<=base):N d e w base' ok v xs:=by
 obtain⟨h0,rows,hl,hR,hf⟩:=h
 exact⟨h0,rows,hl,BA hR hb,hf⟩
theorem TO (h:N d e w base ok v xs) (hm: ∀k,ok k->k<w.heap.size->w1.heap[k]? =w.heap[k]?):N d e w1 base ok v xs:=by
 obtain⟨h0,rows,hl,hR,hf⟩:=h
 exact⟨h0,rows,hl,Ke hR (fun k hk hlt=>hm k (h0 k hk.symm) hlt),fun j x c hx hc=>Qb (hf j x c hx hc) (fun k hk hlt=>hm k hk.1 hlt)⟩
theorem NU (h:N d e w base ok v xs) (hb:Below w.heap.size w w1):N d e w1 base ok v xs:=TO h (fun k _ hk=>hb.block k hk)
theorem Wx (h:N d e w base ok v xs):N d e w.drew base ok v xs:=NU h (FY (Below.refl _ _))
theorem Uj (h:N d e w base ok v xs) (m:Nat):N d e (w.drewN m) base ok v xs:=NU h (AQ (Below.refl _ _) m)
theorem Qe (h:N d e w base ok v xs): ∃A c,v= .slice A xs.length c:=by
 obtain⟨_,rows,hl,hR,_⟩:=h
 obtain⟨A,c,he⟩:=Al hR
 exact⟨A,c,by rw[he,hl]⟩
theorem Iu {n c:Nat} (h:N d e w base ok (.slice A n c) xs):n=xs.length/\n<=c/\d.C w A xs.length xs:=by
 obtain⟨_,rows,hl,hR,hf⟩:=h
 obtain⟨hn,hc,hC⟩:=AN hR
 refine⟨by omega,hc,?_⟩
 rw[hl]at hC
 refine⟨rfl,hC.2.1,fun hp=>?_⟩
 obtain⟨ad,he,hcell⟩:=hC.2.2 hp
 refine⟨ad,he,fun j p hj=>?_⟩
 have hjl:j<rows.length:=by have:=(List.getElem?_eq_some_iff.1 hj).1;omega
 obtain⟨c',hcl,hK,hcc⟩:=hcell j _ (List.getElem?_eq_getElem hjl)
 have hk:=Pa (hf j p _ hj (List.getElem?_eq_getElem hjl))
 refine⟨c',hcl,?_,hcc⟩
 rw[show c'=rows[j]from hK.1]
 exact hk
theorem N_F {n:Nat} (h:N d e w base ok (.slice A n cc) xs):F d w ok A n xs:=fun W' hW=>by
 have h2:=Iu (TO h hW)
 rw[h2.1]
 exact h2.2.2
end
end Kd
end Go.Proofs.YtlnddmkkgjlmbaaW.PrintWords
