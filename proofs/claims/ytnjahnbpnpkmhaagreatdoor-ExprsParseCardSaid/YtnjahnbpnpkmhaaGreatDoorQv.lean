/- Part 22. -/
import Derived.Lib.LaidTab
import Derived.Test.YtnjahnbpnpkmhaaGreatDoorQu

namespace Go.Proofs.YtnjahnbpnpkmhaaGreatDoor
open Go.Proofs.Tryz
open Go Go.Lw Go.ChangeShapes Go.WideShapes Go.ChangeAt Go.RowKit
set_option maxRecDepth 20000
theorem KF {W:World}{g t:Nat}{cs:Array Value}{fuel:Nat}{pl:List MemPlace}{sp:Nat->Bool}{held:Bool}{enc:TypeId×Value->Unit}(Z:prog.globalNamed "internal/strconv.uint64pow10" =some g) (Y:(prog.globals[g]?).map (·.type)=some t) (U:W.var? prog "internal/strconv.uint64pow10" =some cs)
    (hd:DataW.trod enc prog W 0 sp held fuel t cs.toList=some (Rows.laid_internal_strconv_uint64pow10,pl)):vI W.heap:=by
  have gT:prog.globalNamed "internal/strconv.uint64pow10" =some 8:=by kernel_rfl
  have J:(prog.globals[8]?).map (·.type)=some 248:=by kernel_rfl
  obtain rfl:=Option.some.inj (gT.symm.trans Z);obtain rfl:=Option.some.inj (J.symm.trans Y);unfold vI;rw[<-Ck,U];have I:DataW.trod enc prog W 0 sp held fuel 248 cs.toList=some (Lib.tabData .u64 Lib.pow10Tab,pl):=hd;rw[<-Lib.cells_of_tab underlying248 underlying101 (by kernel_rfl) (by kernel_rfl) I]
end Go.Proofs.YtnjahnbpnpkmhaaGreatDoor
namespace Go.Proofs.YtnjahnbpnpkmhaaGreatDoor
open Go
section
variable {of:List Nat}{t:Int}{d:bW}{ss:List bL}{tab reps:List UInt8}
def Kn (d e:bW) (a b:Int):Prop:=∀w,d.fZ a w=e.fZ b w
inductive Fo (d e:bW):List Nat->List Nat->Prop
  |nil:Fo d e [] []
  |cons {x y:Nat}{o p:List Nat}:x<d.next.length->y<e.next.length->Kn d e x y->Fo d e o p->Fo d e (x::o) (y::p)
theorem Da {live:List Bool}{cls:List Int}:of <+: (dh live cls of t).1:=by
  unfold dh;split
  · exact List.prefix_refl _
  · split
    · exact List.prefix_refl _
    · exact List.prefix_append _ _
theorem qZ {live:List Bool}{cls:List Int}:∀(r:List Int) (of:List Nat) (row:List Int),of <+: (gj live cls r of row).1
  | [],of,row=>List.prefix_refl _
  |t::r,of,row=>by
    rw[gj];exact Da.trans (qZ r _ _)
theorem Mw (J:d.Ok) (k:Nat):∀t∈d.row k,t<(d.next.length:Int):=λt I=>by
  obtain⟨c,rfl⟩:=IN I;exact(bW.rX J c).2
def rI (d:bW) (of:List Nat) (t y:Int):Prop:=((∀w,d.fZ t w= -1)/\y= -1)\/((∃w,0<=d.fZ t w)/\∃(i x:Nat),y=(i:Int)/\of[i]? =some x/\Alike d t x)
theorem rI.mono {I:List Nat}{y:Int}(k:rI d of t y) (h:of <+: I):rI d I t y:=by
  rcases k with k|⟨k,i,x,e,hi,J⟩
  · exact .inl k
  · obtain⟨l,rfl⟩:=h;exact .inr ⟨k,i,x,e,by rw[List.getElem?_append_left (List.getElem?_eq_some_iff.1 hi).1];exact hi,J⟩
def Pb (d:bW) (of:List Nat):Prop:=∀(i j x y:Nat),of[i]? =some x->of[j]? =some y->Alike d x y->i=j
structure O6 (d:bW) (of:List Nat):Prop where
  ok:D2 d.next.length of
  apart:Pb d of
theorem C9 (hd:d.Ok) (k:O6 d of) (ht:t<d.next.length) :
    O6 d (dh (bA d) (eE d (bA d)) of t).1/\rI d (dh (bA d) (eE d (bA d)) of t).1 t (dh (bA d) (eE d (bA d)) of t).2:=by
  have hdead:=kL hd ht;have hok:=xd (live:=bA d) (cls:=eE d (bA d)) k.ok ht
  revert hok
  unfold dh;split
  · rename_i h;exact λ_=>⟨k,.inl ⟨hdead.1 h,rfl⟩⟩
  · rename_i h
    have halive:∃w,0<=d.fZ t w:=by
      by_cases q:∃w,0<=d.fZ t w
      · exact q
      · refine absurd (hdead.2 λw=>?_) h;have h1:=FD hd t w;have h2:¬0<=d.fZ t w:=λz=>q ⟨w,z⟩
        omega
    obtain⟨n,rfl⟩:=Int.eq_ofNat_of_zero_le (show 0<=t by omega);simp only[Int.toNat_natCast];split
    · rename_i i hi;intro _;obtain⟨_,x,hx,he⟩:=yd of 0 i _ hi;have hxl:=k.ok.lt x (List.mem_of_getElem? hx);exact⟨k,.inr ⟨halive,i,x,rfl,by simpa using hx,(pJ hd (by omega) hxl).1 he⟩⟩
    · rename_i hi;intro hok;have hne:=rD of 0 _ hi;refine⟨⟨hok,λi j x y hx hy ha=>?_⟩,.inr ⟨halive,of.length,n,rfl,by simp,λw=>rfl⟩⟩
      have hcase:∀(i x:Nat),(of++[n])[i]? =some x->(i<of.length/\of[i]? =some x)\/(i=of.length/\x=n):=λi x hx=>by
        rcases Nat.lt_or_ge i of.length with hl|hl
        · rw[List.getElem?_append_left hl] at hx;exact .inl ⟨hl,hx⟩
        · have:=(List.getElem?_eq_some_iff.1 hx).1;simp at this;have hil:i=of.length:=by omega
          subst hil;simp only[List.getElem?_concat_length,Option.some.injEq] at hx;exact .inr ⟨rfl,hx.symm⟩
      rcases hcase i x hx with ⟨h1,h2⟩|⟨h1,h2⟩<;>rcases hcase j y hy with ⟨h3,h4⟩|⟨h3,h4⟩
      · exact k.apart i j x y h2 h4 ha
      · subst h4;have hxm:=List.mem_of_getElem? h2;exact absurd ((pJ hd (by omega) (k.ok.lt x hxm)).2 λw=>(ha w).symm) (hne x hxm)
      · subst h2;have hym:=List.mem_of_getElem? h4;exact absurd ((pJ hd (by omega) (k.ok.lt y hym)).2 ha) (hne y hym)
      · omega
theorem xe {d:bW}(J:d.Ok):∀(r:List Int) (of:List Nat) (row:List Int),O6 d of->(∀t∈r,t<(d.next.length:Int)) ->
    O6 d (gj (bA d) (eE d (bA d)) r of row).1/\∃ys,(gj (bA d) (eE d (bA d)) r of row).2=row++ys/\ys.length=r.length/\∀(j:Nat) (t y:Int),r[j]? =some t->ys[j]? =some y->rI d (gj (bA d) (eE d (bA d)) r of row).1 t y
  | [],of,row,k,_=>⟨k,[],by simp[gj],rfl,λj t y h=>by simp at h⟩
  |t::r,of,row,k,h=>by
    obtain⟨h1,h2⟩:=C9 J k (h t (by simp));obtain⟨Z,ys,Y,k4,U⟩:=xe J r (dh (bA d) (eE d (bA d)) of t).1 (row++[(dh (bA d) (eE d (bA d)) of t).2]) h1 (λu hu=>h u (by simp[hu]));rw[gj];refine⟨Z,(dh (bA d) (eE d (bA d)) of t).2::ys,by rw[Y];simp,by simp[k4],λj u y hu I=>?_⟩;cases j with
    |zero =>
      simp only[List.getElem?_cons_zero,Option.some.injEq] at hu I;subst hu;subst I;exact h2.mono (qZ _ _ _)
    |succ j=>exact U j u y (by simpa using hu) (by simpa using I)
structure yN (d:bW) (of:List Nat) (m:bW):Prop where
  rep:O6 d of
  first:of[0]? =some 0
  rlen:m.rule.length=m.next.length
  row:∀(k:Nat) (r:Row) (x:Nat),m.next[k]? =some r->of[k]? =some x->∀(c:UInt8) (y:Int),r.v[c.toNat]? =some y->rI d of (d.to x c) y
  rule:∀(k:Nat) (y:Int) (x:Nat),m.rule[k]? =some y->of[k]? =some x->y=d.ru x
theorem Db {d:bW}(hd:d.Ok):∀(n i:Nat) (of:List Nat) (next:List Row) (rule:List Int),yN d of ⟨next,rule⟩->next.length=i->i<=of.length->n+i=d.next.length+1 ->
    ∃of',yN d of' (Dc d (bA d) (eE d (bA d)) n i of next rule)/\of'.length=(Dc d (bA d) (eE d (bA d)) n i of next rule).next.length
  | 0,i,of,next,rule,h,hi,hio,hn=>by have:=h.rep.ok.len;omega
  |n+1,i,of,next,rule,h,hi,hio,hn=>by
    rw[Dc];split
    · rename_i hnone;have:=List.getElem?_eq_none_iff.1 hnone;exact⟨of,h,by show of.length=next.length;omega⟩
    · rename_i x hx;have hxl:=h.rep.ok.lt x (List.mem_of_getElem? hx);obtain⟨k1,ys,k3,k4,k5⟩:=xe hd (d.row x) of [] h.rep (Mw hd x);have hpre:=qZ (live:=bA d) (cls:=eE d (bA d)) (d.row x) of [];rw[A6 hxl] at k4;have hol:=(List.getElem?_eq_some_iff.1 hx).1;generalize gj (bA d) (eE d (bA d)) (d.row x) of []=q at *
      have hb:∀(j y:Nat),j<of.length->q.1[j]? =some y->of[j]? =some y:=λj y hj hy=>by
        obtain⟨t,ht⟩:=hpre;rw[<-ht,List.getElem?_append_left hj] at hy;exact hy
      have hf:∀(j y:Nat),of[j]? =some y->q.1[j]? =some y:=λj y hy=>by
        obtain⟨t,ht⟩:=hpre;rw[<-ht,List.getElem?_append_left (List.getElem?_eq_some_iff.1 hy).1];exact hy
      have hrl:rule.length=next.length:=h.rlen
      have hlen:=hpre.length_le;refine Db hd n (i+1) _ _ _ ⟨k1,hf _ _ h.first,by simp[hrl],λk r z hr hz c y hy=>?_,λk y z hy hz=>?_⟩ (by simp[hi]) (by omega) (by omega)
      · rcases Nat.lt_or_ge k next.length with hk|hk
        · rw[List.getElem?_append_left hk] at hr;exact(h.row k r z hr (hb k z (by omega) hz) c y hy).mono hpre
        · have hkn:k=next.length:=by
            have:=(List.getElem?_eq_some_iff.1 hr).1;simp at this;omega
          subst hkn;simp only[List.getElem?_concat_length,Option.some.injEq] at hr;subst hr;have hzx:=hb _ z (by omega) hz;rw[hi,hx] at hzx;cases hzx;rw[k3,List.nil_append,vR k4] at hy;exact k5 c.toNat _ y (so hxl c) hy
      · rcases Nat.lt_or_ge k rule.length with hk|hk
        · rw[List.getElem?_append_left hk] at hy;exact h.rule k y z hy (hb k z (by omega) hz)
        · have hkn:k=rule.length:=by
            have:=(List.getElem?_eq_some_iff.1 hy).1;simp at this;omega
          subst hkn;simp only[List.getElem?_concat_length,Option.some.injEq] at hy;subst hy;have hzx:=hb _ z (by omega) hz;rw[hrl,hi,hx] at hzx;cases hzx;rfl
theorem G5 (U:d.Ok) (hn:0<d.next.length):∃of,yN d of (nE d)/\of.length=(nE d).next.length:=by
  unfold nE;rw[if_neg (by omega)];refine Db U _ 0 [0] [] [] ⟨⟨⟨by simp,λx J=>by simp at J;omega⟩,λi j x y J I _=>?_⟩,rfl,rfl,λk r x hr=>by simp at hr,λk y x I=>by simp at I⟩ rfl (by simp) (by omega);have h1:=(List.getElem?_eq_some_iff.1 J).1;have Y:=(List.getElem?_eq_some_iff.1 I).1;simp at h1 Y;omega
theorem yN.to {d m:bW}{of:List Nat}(k:yN d of m) (hl:of.length=m.next.length){s x:Nat}(I:of[s]? =some x) (c:UInt8):rI d of (d.to x c) (m.to s c):=by
  have hs:=(List.getElem?_eq_some_iff.1 I).1;have hr:m.next[s]? =some (m.next[s]'(by omega)):=List.getElem?_eq_getElem _
  obtain⟨y,J,he,_⟩:=(m.next[s]'(by omega)).at c;unfold bW.to;rw[hr];simp only;rw[he];exact k.row s _ x hr I c y J
theorem yN.ru {d m:bW}{of:List Nat}(k:yN d of m) (hl:of.length=m.next.length){s x:Nat}(J:of[s]? =some x):m.ru s=d.ru x:=by
  have hs:=(List.getElem?_eq_some_iff.1 J).1;have I:s<m.rule.length:=by rw[k.rlen];omega
  have hr:m.rule[s]? =some (m.rule[s]'I):=List.getElem?_eq_getElem _;have:=k.rule s _ x hr J;unfold bW.ru at this ⊢;rw[List.getD_eq_getElem?_getD,hr];exact this
theorem yN.fZ {d m:bW}{of:List Nat}(k:yN d of m) (hl:of.length=m.next.length):∀(w:By) (s x:Nat),of[s]? =some x->m.fZ (s:Int) w=d.fZ (x:Int) w
  | [],s,x,I=>by rw[ef,ef,k.ru hl I]
  |c::w,s,x,I=>by
    rw[eK,eK]
    rcases k.to hl I c with ⟨h1,J⟩|⟨_,i,y,J,Y,U⟩
    · rw[J,mz m w (by decide),h1]
    · rw[J,k.fZ hl w i y Y,U]
theorem yN.Ra {m:bW}(hd:d.Ok) (k:yN d of m) (hl:of.length=m.next.length):m.Ok:=by
  refine⟨k.rlen,by have:=k.rep.ok.len;have:=hd.size;omega,λr hr x J=>?_,λx J=>?_⟩
  · obtain⟨i,hi⟩:=List.getElem?_of_mem hr;obtain⟨j,Z⟩:=List.getElem?_of_mem J;have Y:=(List.getElem?_eq_some_iff.1 hi).1;have U:=(List.getElem?_eq_some_iff.1 Z).1;rw[r.len] at U;have hc:(UInt8.ofNat j).toNat=j:=by simp;omega
    obtain⟨y,I⟩:∃y,of[i]? =some y:=⟨_,List.getElem?_eq_getElem (by omega)⟩
    rcases k.row i r y hi I (UInt8.ofNat j) x (by rw[hc];exact Z) with ⟨_,rfl⟩|⟨_,a,z,rfl,h3,_⟩
    · omega
    · have:=(List.getElem?_eq_some_iff.1 h3).1;omega
  · obtain⟨i,hi⟩:=List.getElem?_of_mem J;have Y:=(List.getElem?_eq_some_iff.1 hi).1;have:=k.rlen;obtain⟨y,I⟩:∃y,of[i]? =some y:=⟨_,List.getElem?_eq_getElem (by omega)⟩
    rw[k.rule i x y hi I];unfold bW.ru;rw[List.getD_eq_getElem?_getD];cases h:d.rule[y]? with
    |none=>show -1<=(-1:Int)/\(-1:Int)<=1000000;omega
    |some v=>exact hd.ru v (List.mem_of_getElem? h)
def Trim (m:bW):Prop:=∀(s:Nat) (c:UInt8),s<m.next.length->0<=m.to s c->∃w,0<=m.fZ (m.to s c) w
theorem zY (J:d.Ok) (Y:0<d.next.length):(nE d).Ok/\0<(nE d).next.length/\(nE d).next.length<=d.next.length/\Kn (nE d) d 0 0/\Trim (nE d):=by
  obtain⟨of,k,hl⟩:=G5 J Y;have h0:=(List.getElem?_eq_some_iff.1 k.first).1;refine⟨k.Ra J hl,by omega,by have:=k.rep.ok.len;omega,λw=>k.fZ hl w 0 0 k.first,λs c hs h=>?_⟩;obtain⟨x,U⟩:∃x,of[s]? =some x:=⟨_,List.getElem?_eq_getElem (by omega)⟩
  rcases k.to hl U c with ⟨h1,I⟩|⟨⟨w,hw⟩,i,y,I,h3,Z⟩
  · rw[I] at h;omega
  · exact⟨w,by rw[I,k.fZ hl w i y h3,<-Z];exact hw⟩
theorem sQ (d:bW):∀(l:By) (s k:Nat) (b:Int×Int),(∀w,d.fZ (s:Int) w= -1)->(aT d l s k b).1=b.1/\(aT d l s k b).2.1=b.2/\(k:Int)<=(aT d l s k b).2.2
  | [],s,k,b,h=>by
    have h0:=h [];rw[ef] at h0;rw[aT,if_neg (by omega)];exact⟨rfl,rfl,Int.le_refl _⟩
  |c::l,s,k,b,h=>by
    have h0:=h [];rw[ef] at h0;rw[aT,if_neg (by omega:¬0<=d.ru s),if_neg (by omega:¬0<=d.ru s)];split
    · rename_i I;have:=sQ d l (d.to s c).toNat (k+1) b (λw=>by rw[Int.toNat_of_nonneg I,<-eK];exact h (c::w));exact⟨this.1,this.2.1,by have:=this.2.2;omega⟩
    · exact⟨rfl,rfl,Int.le_refl _⟩
theorem sP {d m:bW}(hd:d.Ok) (hm:m.Ok) (Z:Trim m):∀(l:By) (s t k:Nat) (b:Int×Int),s<d.next.length->t<m.next.length->Kn d m s t ->
    (aT d l s k b).1=(aT m l t k b).1/\(aT d l s k b).2.1=(aT m l t k b).2.1/\(aT m l t k b).2.2<=(aT d l s k b).2.2
  | [],s,t,k,b,hs,U,h=>by
    have h0:=h [];rw[ef,ef] at h0;rw[aT,aT,h0];exact⟨rfl,rfl,Int.le_refl _⟩
  |c::l,s,t,k,b,hs,U,h=>by
    have h0:=h [];rw[ef,ef] at h0;have hl:Kn d m (d.to s c) (m.to t c):=λw=>by rw[<-eK,<-eK];exact h _
    have h1:=bW.rX hd (s:=s) c;have h2:=bW.rX hm (s:=t) c;rw[aT,aT,h0]
    by_cases J:0<=m.to t c
    · obtain⟨w,hw⟩:=Z t c U J
      have I:0<=d.to s c:=by
        by_cases e:d.to s c<0
        · rw[<-hl w,mz d w e] at hw;omega
        · omega
      rw[if_pos J,if_pos I];exact sP hd hm Z l _ _ _ _ (by omega) (by omega) (λw=>by rw[Int.toNat_of_nonneg J,Int.toNat_of_nonneg I];exact hl w)
    · rw[if_neg J]
      by_cases I:0<=d.to s c
      · rw[if_pos I];have Y:=sQ d l (d.to s c).toNat (k+1) (if 0<=m.ru t then ((k:Int),m.ru t) else b) (λw=>by rw[Int.toNat_of_nonneg I,hl w];exact mz m w (by omega));obtain⟨d1,d2,d3⟩:=Y;rw[d1,d2];generalize (aT d l (d.to s c).toNat (k+1) (if 0<=m.ru t then ((k:Int),m.ru t) else b)).2.2=z at *;split
        · exact⟨rfl,rfl,by show (k:Int)<=_;omega⟩
        · exact⟨rfl,rfl,by show (k:Int)<=_;omega⟩
      · rw[if_neg I];exact⟨rfl,rfl,Int.le_refl _⟩
theorem Ej {m:bW}(Z:d.Ok) (hm:m.Ok) (Y:Trim m) (J:0<d.next.length) (I:0<m.next.length) (hl:Kn d m 0 0) (s:By) (a:Int) :
    (dH d s a).1=(dH m s a).1/\(dH d s a).2.1=(dH m s a).2.1/\(dH m s a).2.2<=(dH d s a).2.2:=by
  unfold dH
  by_cases U:a<0\/(s.length:Int)<a
  · rw[if_pos (.inr U),if_pos (.inr U)];exact⟨rfl,rfl,Int.le_refl _⟩
  · rw[if_neg (by omega),if_neg (by omega)];exact sP Z hm Y (s.drop a.toNat) 0 0 0 (0,-1) J I hl
theorem wU {α:Type}[DecidableEq α]:∀(l m:List α),l.Nodup->(∀x∈l,x∈m)->l.length<=m.length
  | [],m,_,_=>Nat.zero_le _
  |a::l,m,h,hs=>by
    rw[List.nodup_cons] at h;have J:=hs a (by simp);have:=wU l (m.erase a) h.2 (λx I=>(List.mem_erase_of_ne (λe=>h.1 (by rw[<-e];exact I))).2 (hs x (by simp[I])));have h2:=List.length_erase_of_mem J;have h3:=List.length_pos_of_mem J;simp only[List.length_cons];omega
def Lj (ss:List bL) (S:List (List Nat)):Prop:=∀T∈S,∀c:UInt8,(cT ss c T).length=0\/cT ss c T∈S
theorem FJ {ss:List bL}{S:List (List Nat)}{cur:List Nat}(U:Lj ss S) (hc:cur∈S):∀(n b:Nat) (lists:List (List Nat)) (row:List Int),(∀T∈lists,T∈S)->∀T∈(ny ss cur n b lists row).1,T∈S
  | 0,b,lists,row,h=>h
  |n+1,b,lists,row,h=>by
    rw[ny];refine FJ U hc n (b+1) _ _ λT I=>?_
    unfold dR at I;split at I
    · exact h T I
    · rename_i J;split at I
      · exact h T I
      · rcases List.mem_append.1 I with k|k
        · exact h T k
        · rw[List.mem_singleton.1 k];exact(U cur hc (UInt8.ofNat b)).resolve_left J
theorem u5 {ss:List bL}{S:List (List Nat)}(Y:Lj ss S) (hlen:S.length<=2000):∀(n k:Nat) (lists:List (List Nat)) (next:List Row) (rule:List Int),lists.Nodup->(∀T∈lists,T∈S)->k<=lists.length->2002<=n+k->∃d,lR ss n k lists next rule=some d
  | 0,k,lists,next,rule,U,I,hk,hf=>by
    have:=wU lists S U I;omega
  |n+1,k,lists,next,rule,U,I,hk,hf=>by
    rw[lR];split
    · exact⟨_,rfl⟩
    · rename_i cur J;have hkl:=(List.getElem?_eq_some_iff.1 J).1;obtain⟨h1,h2,_⟩:=tI ss cur 256 0 lists [] U;have Z:=FJ Y (I cur (List.mem_of_getElem? J)) 256 0 lists [] I;have h4:=wU _ S h2 Z;have h5:=h1.length_le;rw[if_neg (by omega)];exact u5 Y hlen n (k+1) _ _ _ h2 Z (by omega) (by omega)
theorem DK {st:Nat}{S:List (List Nat)}(Y:Lj ss S) (hlen:S.length<=2000) (h0:(cB ss st).length≠0) (I:cB ss st∈S):∃d,gM ss st= .inr d:=by
  obtain⟨d,J⟩:=u5 Y hlen 2002 0 [cB ss st] [] [] (by simp) (λT U=>by rw[List.mem_singleton.1 U];exact I) (Nat.zero_le _) (Nat.le_refl _);refine⟨d,?_⟩;unfold gM;rw[if_neg h0,J]
theorem tB {ss:List bL}{c r:UInt8}(h:∀x∈ss,x.set.testBit c.toNat=x.set.testBit r.toNat):∀(l a:List Nat),stepG ss c l a=stepG ss r l a
  | [],a=>rfl
  |j::l,a=>by
    rw[stepG,stepG];cases I:ss[j]? with
    |none=>exact tB h l a
    |some x =>
      simp only;rw[show j8 x c=j8 x r by unfold j8;rw[h x (List.mem_of_getElem? I)]];exact tB h l _
theorem Gz {c r:UInt8}(h:∀x∈ss,x.set.testBit c.toNat=x.set.testBit r.toNat) (T:List Nat):cT ss c T=cT ss r T:=by
  unfold cT;rw[tB h]
def BH:List (List Nat×Nat)->List Nat->Option Nat
  | [],_=>none
  |(T,h)::l,U=>if T=U then some h else BH l U
theorem xR:∀{l:List (List Nat×Nat)}{U:List Nat}{h:Nat},BH l U=some h->(U,h)∈l
  | [],U,h,e=>by cases e
  |(T,h')::l,U,h,e=>by
    rw[BH] at e;split at e
    · rename_i k;cases e;subst k;simp
    · exact List.mem_cons_of_mem _ (xR e)
def F6 (ss:List bL) (H:List (List Nat×Nat)) (T:List Nat) (h:Nat) (r:UInt8):Bool :=
  (cT ss r T).isEmpty ||match BH H (cT ss r T) with
    |none=>false
    |some h'=>decide (0<=bu ss (cT ss r T)) ||decide ((if 0<=bu ss T then 0 else h)+1<=h')
def rG (ss:List bL) (H:List (List Nat×Nat)) (reps:List UInt8):Bool:=H.all λp=>decide (p.2<=2) && reps.all λr=>F6 ss H p.1 p.2 r
def jQ (ss:List bL) (tab:List UInt8) (reps:List UInt8):Bool:=decide (tab.length=256) && (List.range 256).all λb=>reps.contains (tab.getD b 0) && ss.all λx=>x.set.testBit b ==x.set.testBit (tab.getD b 0).toNat
theorem Le (h:jQ ss tab reps=true) (c:UInt8):∃r∈reps,∀x∈ss,x.set.testBit c.toNat=x.set.testBit r.toNat:=by
  unfold jQ at h;rw[Bool.and_eq_true] at h;have I:=List.all_eq_true.1 h.2 c.toNat (List.mem_range.2 c.toNat_lt);rw[Bool.and_eq_true] at I;exact⟨_,by simpa using I.1,λx J=>by simpa using List.all_eq_true.1 I.2 x J⟩
theorem DM {H:List (List Nat×Nat)}(hr:jQ ss tab reps=true) (Y:rG ss H reps=true){T:List Nat}{h:Nat}(hT:(T,h)∈H) (c:UInt8) :
    (cT ss c T).length=0\/∃h',(cT ss c T,h')∈H/\h'<=2/\(0<=bu ss (cT ss c T)\/(if 0<=bu ss T then 0 else h)+1<=h'):=by
  obtain⟨r,J,hx⟩:=Le hr c;rw[Gz hx];have h1:=List.all_eq_true.1 Y _ hT;rw[Bool.and_eq_true] at h1;have I:=List.all_eq_true.1 h1.2 r J;simp only[F6,Bool.or_eq_true,List.isEmpty_iff] at I
  rcases I with I|I
  · left;rw[I];rfl
  · right
    cases U:BH H (cT ss r T) with
    |none=>rw[U] at I;cases I
    |some h' =>
      rw[U] at I;simp only[Bool.or_eq_true,decide_eq_true_eq] at I;have hm:=xR U;have Z:=List.all_eq_true.1 Y _ hm;rw[Bool.and_eq_true] at Z;exact⟨h',hm,of_decide_eq_true Z.1,I⟩
theorem JW {H:List (List Nat×Nat)}(hr:jQ ss tab reps=true) (I:rG ss H reps=true):Lj ss (H.map (·.1)):=λT J c=>by
  obtain⟨⟨T',h⟩,hm,rfl⟩:=List.mem_map.1 J
  rcases DM hr I hm c with k|⟨h',k,_⟩
  · exact .inl k
  · exact .inr (List.mem_map.2 ⟨_,k,rfl⟩)
theorem zM {ss:List bL}{st0:Nat}{L:List (List Nat)}{d:bW}(k:pU ss st0 L d) (hL:L.length=d.next.length){H:List (List Nat×Nat)}{tab reps:List UInt8}(hr:jQ ss tab reps=true) (ha:rG ss H reps=true):∀(l:By) (s j:Nat) (b:Int×Int) (T:List Nat) (h:Nat),
    L[s]? =some T->(T,h)∈H->(j:Int)<=(if 0<=bu ss T then (j:Int) else b.1+h)->(aT d l s j b).2.2<=(aT d l s j b).1+2
  | [],s,j,b,T,h,hs,hm,hj=>by
    have h2:=List.all_eq_true.1 ha _ hm;rw[Bool.and_eq_true] at h2;have h3:=of_decide_eq_true h2.1;rw[aT,k.ru hL hs];split
    · show (j:Int)<=j+2;omega
    · rename_i hn;rw[if_neg hn] at hj
      show (j:Int)<=b.1+2
      simp only at h3;omega
  |c::l,s,j,b,T,h,hs,hm,hj=>by
    have h2:=List.all_eq_true.1 ha _ hm;rw[Bool.and_eq_true] at h2;have h3:=of_decide_eq_true h2.1;simp only at h3;rw[aT,k.ru hL hs]
    rcases k.to hL hs c with ⟨h1,e1⟩|⟨h1,i,e1,hi⟩
    · rw[e1,if_neg (by decide)];split
      · show (j:Int)<=j+2;omega
      · rename_i hn;rw[if_neg hn] at hj
        show (j:Int)<=b.1+2
        omega
    · rw[e1,if_pos (by omega),Int.toNat_natCast]
      rcases DM hr ha hm c with q|⟨h',q1,q2,q3⟩
      · exact absurd q h1
      · refine zM k hL hr ha l i (j+1) _ _ h' hi q1 ?_
        by_cases hacc:0<=bu ss (cT ss c T)
        · rw[if_pos hacc];omega
        · rw[if_neg hacc];have q4:=q3.resolve_left hacc
          by_cases ht:0<=bu ss T
          · rw[if_pos ht] at q4;rw[if_pos ht]
            show ((j+1:Nat):Int)<=(j:Int)+h'
            omega
          · rw[if_neg ht] at q4 hj;rw[if_neg ht];omega
end
end Go.Proofs.YtnjahnbpnpkmhaaGreatDoor
namespace Go.Proofs.YtnjahnbpnpkmhaaGreatDoor
open Go
set_option maxRecDepth 100000
def wK:List By:=[[91,32,92,116,92,114,93,43],[92,110],[91,97,45,122,65,45,90,95,93,91,97,45,122,65,45,90,48,45,57,95,93,42],[91,48,45,57,93,43,40,92,46,91,48,45,57,93,43,41,63,40,91,101,69,93,91,92,43,92,45,93,63,91,48,45,57,93,43,41,63],[47,47,91,94,92,110,93,42],[47,92,42],[34],[91,92,40,92,91,123,93],[91,92,41,92,93,125,93],[91,92,43,92,45,92,42,47,37,60,62,33,61,44,59,58,92,46,93,124,61,61,124,33,61,124,60,61,124,62,61,124,38,38,124,92,124,92,124,124,92,45,62]]
def AY:List bL:=[⟨2,0,[],0⟩,⟨0,0,[2,0],0⟩,⟨1,4294976000,[1],0⟩,⟨2,0,[],1⟩,⟨1,1024,[3],0⟩,⟨2,0,[],2⟩,⟨0,0,[7,5],0⟩,⟨1,10633823849912963253799171395480977408,[6],0⟩,⟨1,10633823849912963253511222494305976320,[6],0⟩,⟨2,0,[],3⟩,⟨0,0,[11,9],0⟩,⟨1,287948901175001088,[10],0⟩,⟨1,43980465111040,[11],0⟩,⟨0,0,[12,11],0⟩,⟨1,2535301201046754613352112062464,[13],0⟩,⟨0,0,[14,9],0⟩,⟨0,0,[17,15],0⟩,⟨1,287948901175001088,[16],0⟩,⟨1,70368744177664,[17],0⟩,⟨0,0,[18,15],0⟩,⟨0,0,[21,19],0⟩,⟨1,287948901175001088,[20],0⟩,⟨2,0,[],4⟩,⟨0,0,[24,22],0⟩,⟨1,115792089237316195423570985008687907853269984665640564039457584007913129638911,[23],0⟩,⟨1,140737488355328,[23],0⟩,⟨1,140737488355328,[25],0⟩,⟨2,0,[],5⟩,⟨1,4398046511104,[27],0⟩,⟨1,140737488355328,[28],0⟩,⟨2,0,[],6⟩,⟨1,17179869184,[30],0⟩,⟨2,0,[],7⟩,⟨1,10633823968755207061801218131552632832,[32],0⟩,⟨2,0,[],8⟩,⟨1,42535295875020828247204870327187275776,[34],0⟩,⟨2,0,[],9⟩,⟨1,8935418883662151680,[36],0⟩,⟨1,2305843009213693952,[36],0⟩,⟨1,2305843009213693952,[38],0⟩,⟨1,2305843009213693952,[36],0⟩,⟨1,8589934592,[40],0⟩,⟨1,2305843009213693952,[36],0⟩,⟨1,1152921504606846976,[42],0⟩,⟨1,2305843009213693952,[36],0⟩,⟨1,4611686018427387904,[44],0⟩,⟨1,274877906944,[36],0⟩,⟨1,274877906944,[46],0⟩,⟨1,21267647932558653966460912964485513216,[36],0⟩,⟨1,21267647932558653966460912964485513216,[48],0⟩,⟨1,4611686018427387904,[36],0⟩,⟨1,35184372088832,[50],0⟩,⟨0,0,[37,39,41,43,45,47,49,51],0⟩,⟨0,0,[2,4,8,21,26,29,31,33,35,52],0⟩]
theorem N9:eo wK= .inr (AY,53):=rfl
def Nj:List (List Nat×Nat):=[([2,4,8,21,26,29,31,33,35,37,39,41,43,45,47,49,51],0),([0,2],0),([3],0),([36,40],0),([30],0),([36],0),([46],1),([32],0),([34],0),([36,50],0),([25,28,36],0),([9,14,18,21],0),([36,42],0),([36,38],0),([36,44],0),([5,7],0),([48],1),([27],0),([22,24],0),([17],1),([11,12],1),([9,14,17],0),([11],2),([9,11],0)]
def PF:List UInt8:=[0,0,0,0,0,0,0,0,0,9,10,0,0,9,0,0,0,0,0,0,0,0,0,0,0,0,0,0,0,0,0,0,9,33,34,0,0,37,38,0,40,41,42,43,37,45,46,47,48,48,48,48,48,48,48,48,48,48,37,37,60,61,62,0,0,65,65,65,65,69,65,65,65,65,65,65,65,65,65,65,65,65,65,65,65,65,65,65,65,65,65,40,0,41,0,65,0,65,65,65,65,69,65,65,65,65,65,65,65,65,65,65,65,65,65,65,65,65,65,65,65,65,65,40,124,41]++List.replicate 130 0
def LX:List UInt8:=[0,9,10,33,34,37,38,40,41,42,43,45,46,47,48,60,61,62,65,69,124]
def wJ:List By:=[[91,94,34,92,92,92,110,93,43],[92,92,91,110,114,116,34,92,92,48,93],[34],[92,110]]
def AX:List bL:=[⟨2,0,[],0⟩,⟨0,0,[2,0],0⟩,⟨1,115792089237316195423570985008687907853269984665635612279300442486796353272831,[1],0⟩,⟨2,0,[],1⟩,⟨1,105144016337090416619545142419783680,[3],0⟩,⟨1,4951760157141521099596496896,[4],0⟩,⟨2,0,[],2⟩,⟨1,17179869184,[6],0⟩,⟨2,0,[],3⟩,⟨1,1024,[8],0⟩,⟨0,0,[2,5,7,9],0⟩]
theorem Jh:eo wJ= .inr (AX,10):=rfl
def Oh:List (List Nat×Nat):=[([2,5,7,9],0),([0,2],0),([8],0),([6],0),([4],1),([3],0)]
def PE:List UInt8:=[0,0,0,0,0,0,0,0,0,0,10,0,0,0,0,0,0,0,0,0,0,0,0,0,0,0,0,0,0,0,0,0,0,0,34,0,0,0,0,0,0,0,0,0,0,0,0,0,48]++List.replicate 43 0++[92,0,0,0,0,0,0,0,0,0,0,0,0,0,0,0,0,0,48,0,0,0,48,0,48]++List.replicate 139 0
def LW:List UInt8:=[0,10,34,48,92]
def wI:List By:=[[47,92,42],[92,42,47],[91,94,92,42,47,93,43],[91,92,42,47,93]]
def AW:List bL:=[⟨2,0,[],0⟩,⟨1,4398046511104,[0],0⟩,⟨1,140737488355328,[1],0⟩,⟨2,0,[],1⟩,⟨1,140737488355328,[3],0⟩,⟨1,4398046511104,[4],0⟩,⟨2,0,[],2⟩,⟨0,0,[8,6],0⟩,⟨1,115792089237316195423570985008687907853269984665640564039457583862777594773503,[7],0⟩,⟨2,0,[],3⟩,⟨1,145135534866432,[9],0⟩,⟨0,0,[2,5,8,10],0⟩]
theorem N8:eo wI= .inr (AW,11):=rfl
def qu:List (List Nat×Nat):=[([2,5,8,10],0),([6,8],0),([4,9],0),([1,9],0),([3],0),([0],0)]
def PD:List UInt8:=List.replicate 42 0++[42,0,0,0,0,47]++List.replicate 208 0
def LV:List UInt8:=[0,42,47]
theorem OA:jQ AY PF LX=true:=by decide +kernel
theorem OD:rG AY Nj LX=true:=by decide +kernel
theorem Ox:BH Nj (cB AY 53)=some 0/\cB AY 53≠[]/\¬0<=bu AY (cB AY 53):=by decide +kernel
theorem Oz:jQ AX PE LW=true:=by decide +kernel
theorem OC:rG AX Oh LW=true:=by decide +kernel
theorem Ov:BH Oh (cB AX 10)=some 0/\cB AX 10≠[]/\¬0<=bu AX (cB AX 10):=by decide +kernel
theorem Oy:jQ AW PD LV=true:=by decide +kernel
theorem OB:rG AW qu LV=true:=by decide +kernel
theorem Ou:BH qu (cB AW 11)=some 0/\cB AW 11≠[]/\¬0<=bu AW (cB AW 11):=by decide +kernel
end Go.Proofs.YtnjahnbpnpkmhaaGreatDoor
