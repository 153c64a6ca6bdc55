/- Part 6. -/
import Derived.Laws.IdiomStrings
import Derived.Laws.BytesArg
import Derived.Test.YtnjahnbpnpkmhaaGreatDoorQe

namespace Go.Lw
open Go.RowKit
section
variable {t e:TypeId}{v:Value}{n sz:Nat}{O:Nat->Prop}{h:aq}
section
variable {P:Program}{ρ:Env}{h:aq}{dst:Option Nat}{ty:TypeId}{pos:String}{after:Array Edge}{guard:Option (Nat×Bool)}{X:List PanicEntry->aq->Prop}
theorem ie (h:aq) (us:List Value) (t:TypeId):rowAt (h.push (.cells us.toArray t)) h.size 0 us:=λj v I=>by
 rw[Nat.zero_add];exact vD h _ _ _ _ _ (by simpa using I)
theorem aV.yp {size bytes:Nat}{ps:Array (Nat×Operand)}{cs:List Value}(ht:P.underlying t=some (.slice e)) (he:dS P e size bytes)
 (U:ps.toList.map (λp=>(p.1,bp ρ p.2))=[(0,some (.agg cs.toArray))]) (hn:cs.length=size) (hsz:size<=16777216) :
 aV P ⟨dst,.buildSlice t 1 ps,ty,pos,after,guard⟩ ρ h (λu g=>u= .slice (some ⟨h.size,0,none⟩) 1 1/\g=h.push (.cells cs.toArray e)) X:=by
 refine kP (vs:=[(0,.agg cs.toArray)]) ht he U (by omega) (λz hz=>?_)
 have key:∀(cs:List Value) (k:Nat) (pre I:List Value),pre.length=k->I.length=cs.length ->
  (cs.zipIdx k).foldl (fun(a:Array Value) (p:Value×Nat)=>a.setIfInBounds p.2 p.1) (pre++I).toArray=(pre++cs).toArray:=by
  intro cs
  induction cs with
  |nil =>
   intro k pre I _ hl;have:I=[]:=List.eq_nil_of_length_eq_zero (by simpa using hl);subst this;rfl
  |cons c cs Z =>
   intro k pre I Y hl;cases I with
   |nil=>simp at hl
   |cons t I =>
    rw[List.zipIdx_cons,List.foldl_cons]
    have J:(pre++t::I).toArray.setIfInBounds k c=((pre++[c])++I).toArray:=by
     subst Y;simp[List.set_append_right]
    simp only[J];rw[Z (k+1) (pre++[c]) I (by simp[Y]) (by simpa using hl)];simp
 subst hn;simp only[Instr.fill,Nat.zero_mul,Nat.one_mul,Value.cells];rw[if_neg (by simp)]
 congr 1
 have e1:(Array.map (λx=>z[x%z.size]!) (Array.range cs.length))=([]++(List.range cs.length).map (λx=>z[x%z.size]!)).toArray:=by
  apply Array.ext';simp
 rw[e1];have:=key cs 0 [] ((List.range cs.length).map (λx=>z[x%z.size]!)) rfl (by simp)
 have e2:(cs.toArray.zipIdx.foldl (fun(a:Array Value) (p:Value×Nat)=>a.setIfInBounds (0+p.2) p.1) ([]++(List.range cs.length).map (λx=>z[x%z.size]!)).toArray)=([]++cs).toArray:=by
  rw[<-this];simp
 simpa using e2
theorem aV.dA {size bytes:Nat}{x y:Operand}{xs news:List Value}{m c base:Nat}{h0:aq}(ht:P.underlying t=some (.slice e)) (he:dS P e size bytes)
 (hx:bp ρ x=some v) (hy:bp ρ y=some (.slice (some ⟨h0.size,0,none⟩) m c)) (I:aB h0 base e size v n xs) (hh:h=h0.push (.cells news.toArray e)) (hl:news.length=m*size)
 (h1:∀u∈news,u.oneCell'=true) (hn:n+m<=1000000000) (J:bytes<=1000) (hbase:base<=h0.size) :
 aV P ⟨dst,.call ⟨.builtin .append,#[x,y],#[t,t]⟩,ty,pos,after,guard⟩ ρ h (λv' h'=>aB h' base e size v' (n+m) (xs++news)/\Ext (bU v.ownBlock) h0 h'/\Ext (bU v.ownBlock) h h'/\(∀b,v'.ownBlock=some b->v.ownBlock=some b\/h0.size<=b)) X:=by
 subst hh;have Y:=Ext.push (λ_=>False) h0 (.cells news.toArray e);have hs:(h0.push (.cells news.toArray e)).size=h0.size+1:=by simp
 have hmul:(n+m)*bytes<=1000000000*1000:=Nat.mul_le_mul hn J
 refine(aV.append ht he hx hy (I.ext Y (λ_ _ k=>k)) hl (.inr ⟨_,_,rfl,ie _ _ _⟩) h1 (by simp only[maxLen];omega) (by omega) (by omega)).mono (λv' h' ⟨Z,U,_,k4⟩=>⟨Z,?_,U,λb hb=>?_⟩) (λ_ _ k=>k)
 · exact(aj.of Y).trans U
 · rcases k4 b hb with k|k
   · exact .inl k
   · exact .inr (by omega)
theorem az.HD {s d:TypeId}{x:Operand}{l:List UInt8}(hs:P.underlying s=some (.slice e)) (he:P.underlying e=some (.int .u8)) (Z:P.underlying d=some .string)
 (hx:bp ρ x=some v) (hv:aL .byte h O v l):az P ⟨dst,.convert s d x,ty,pos,after,guard⟩ ρ h (.string ⟨l.toArray⟩):=by
 intro _ B a w hf J;obtain⟨oa,n,c,rfl,I⟩:=hv.open;have hn:=I.len;subst hn
 have key:(convert s d (.slice oa l.length c)).run P w= .ok (.string ⟨l.toArray⟩) w:=by
  cases oa with
  |none =>
   have hl:l=[]:=by
    rcases Nat.eq_zero_or_pos l.length with h0|h0
    · exact List.eq_nil_of_length_eq_zero h0
    · obtain⟨b,o,x,J,_⟩:=I.at h0;cases J
   subst hl;rw[run_convert_bytes_string w s d e none _ c hs he Z];rfl
  |some p =>
   refine run_convert_bytes_back w s d e p c l hs he Z (λj Y=>?_);obtain⟨b,o,y,hp,_,U,hc⟩:=I.at Y;cases hp;rw[J.cell];rw[List.getElem?_eq_getElem Y] at U;cases U;simpa [Addr.add_mid] using hc
 simp only[execOp,hf.eval hx,Sem.run_bind,key,Result.andThen_ok,Sem.run_pure]
end
def gW.record {α:Type}(sz:Nat) (pos:0<sz) (enc:α->List Value) (hl:∀x,(enc x).length=sz) (h1:∀x,∀v∈enc x,v.oneCell'=true):gW α where
 sz:=sz
 pos:=pos
 R:=λ_ _ cs x=>cs=enc x
 len:=λh=>by subst h;exact hl _
 one:=λh=>by subst h;exact h1 _
 mv:=λh _=>h
theorem Sl.nA {α:Type}{pos:0<sz}{enc:α->List Value} {hl:∀x,(enc x).length=sz} {h1:∀x,∀v∈enc x,v.oneCell'=true}{oa:Option Addr}{c:Nat}{xs:List α}(k:Sl (.record sz pos enc hl h1) h O oa n c xs){i:Nat}(hi:i<n) :
 ∃b o x,oa=some ⟨b,o,none⟩/\¬O b/\xs[i]? =some x/\rowAt h b (o+i*sz) (enc x):=by
 have I:i<xs.length:=by rw[k.len];exact hi
 obtain⟨b,o,cs,Y,U,hr,Z⟩:=k.get i xs[i] (List.getElem?_eq_getElem I);have J:cs=enc xs[i]:=Z;subst J;exact⟨b,o,xs[i],Y,U,List.getElem?_eq_getElem I,hr⟩
theorem iU {α:Type}{sz:Nat}{enc:α->List Value}(hl:∀x,(enc x).length=sz):∀(xs:List α) (i:Nat) (x:α) (j:Nat) (v:Value),xs[i]? =some x->(enc x)[j]? =some v->(xs.flatMap enc)[i*sz+j]? =some v
 | [],i,x,j,v,I,_=>by simp at I
 |y::ys,0,x,j,v,I,J=>by
  simp at I;subst I;have:j<(enc y).length:=(List.getElem?_eq_some_iff.1 J).1;rw[List.flatMap_cons,Nat.zero_mul,Nat.zero_add,List.getElem?_append_left this];exact J
 |y::ys,i+1,x,j,v,I,J=>by
  rw[List.flatMap_cons,List.getElem?_append_right (by rw[hl,Nat.add_mul];omega),hl];have:(i+1)*sz+j-sz=i*sz+j:=by rw[Nat.add_mul];omega
  rw[this];exact iU hl ys i x j v (by simpa using I) J
theorem pq {α:Type}{sz:Nat}{enc:α->List Value}(hl:∀x,(enc x).length=sz):∀xs:List α,(xs.flatMap enc).length=xs.length*sz
 | []=>by simp
 |y::ys=>by rw[List.flatMap_cons,List.length_append,hl,pq hl ys,List.length_cons,Nat.add_mul];omega
theorem aB.NW {α:Type}{pos:0<sz}{enc:α->List Value} {hl:∀x,(enc x).length=sz} {h1:∀x,∀v∈enc x,v.oneCell'=true}{base:Nat}{xs:List α}
 (k:aB h base t sz v n (xs.flatMap enc)) (ho:∀b,base<=b->¬O b):aL (.record sz pos enc hl h1) h O v xs:=by
 have Y:xs.length=n:=by
  have:=k.1;rw[pq hl] at this;exact Nat.eq_of_mul_eq_mul_right pos this
 rcases k.2 with ⟨rfl,rfl⟩|⟨g,cap,cur,rfl,hb,hg,U,hc,hs,Z⟩
 · exact⟨none,0,0,rfl,Y,Nat.le_refl _,by simp[maxLen],λi x J=>by
    have:xs=[]:=List.eq_nil_of_length_eq_zero Y;subst this;simp at J⟩
 · refine⟨some ⟨g,0,none⟩,n,cap,rfl,Y,U,hc,λi x J=>⟨g,0,enc x,rfl,ho g hb,?_,rfl⟩⟩;intro j u hj;have I:=iU hl xs i x j u J hj;rw[<-Z,List.getElem?_take] at I;split at I
   · have h3:cur[i*sz+j]? =some u:=by simpa using I
     simpa [cellAt,hg,gW.record,Nat.add_assoc] using h3
   · cases I
theorem jq.Mx {P:Program}{ρ:Env}{a:Tmp}{b o:Nat}{cs:List Value}(hr:aX P t=some true) (hs:cK P t=some sz) (I:ρ.at a=some (.pointer (some ⟨b,o,none⟩))) (hc:rowAt h b o cs) (J:cs.length=sz):jq P ρ h (.cell a t) (.agg cs.toArray) :=
 jq.row hr (by rw[J];exact hs) I hc
end
end Go.Lw
namespace Go.Lw
section
variable {α:Type}{h h':aq}{base sz:Nat}{t:TypeId}{v:Value}
def bN {α:Type}(enc:α->Value) (h:aq) (base:Nat) (t:TypeId) (v:Value) (xs:List α):Prop:=aB h base t 1 v xs.length (xs.map enc)
theorem bN.of {enc:α->Value}{xs ys:List α}{n m:Nat}{news:List Value}(k:aB h base t 1 v (n+m) (xs.map enc++news)) (J:n=xs.length) (hm:m=ys.length) (I:news=ys.map enc):bN enc h base t v (xs++ys):=by
 unfold bN;subst J hm I;simpa using k
theorem bN.nil {α:Type}(enc:α->Value) (h:aq) (base:Nat) (t:TypeId):bN enc h base t (.slice none 0 0) []:=aB.nil h base t 1
theorem iA {α:Type}(enc:α->Value) (h:aq) (t:TypeId) (xs:List α) (n:Nat) (I:xs.length=n) (hm:n<=maxLen) (base:Nat) (J:base<=h.size){us:List Value}(hu:us=xs.map enc):bN enc (h.push (.cells us.toArray t)) base t (.slice (some ⟨h.size,0,none⟩) n n) xs:=by
 subst I hu;exact HS h (xs.map enc) t xs.length (by simp) hm base J
theorem bN.read {enc:α->Value} {h1:∀x,(enc x).oneCell'=true}{O:Nat->Prop}{xs:List α}(k:bN enc h base t v xs) (I:∀b,base<=b->¬O b):aL (.flat enc h1) h O v xs:=aB.shut k I
theorem bN.ah {enc:α->Value}{xs:List α}(k:bN enc h base t v xs) (e:aj h h'):bN enc h' base t v xs:=aB.ext e k (λ_ _ k=>k)
theorem bN.grown {enc:α->Value}{h0:aq}{xs:List α}(J:aj h0 h) (k:bN enc h base t v xs) (I:h0.size<=base) (e:Ext (bU v.ownBlock) h h'):aj h0 h':=Ext.own J k I e
def vz (b:UInt8):Value:=.int .u8 b.toNat
abbrev Fk (h:aq) (base:Nat) (t:TypeId) (v:Value) (xs:List UInt8):Prop:=bN vz h base t v xs
theorem Fk.read {h:aq}{base:Nat}{O:Nat->Prop}{t:TypeId}{v:Value}{xs:List UInt8}(k:Fk h base t v xs) (I:∀b,base<=b->¬O b):aL .byte h O v xs:=bN.read (h1:=λ_=>rfl) k I
def fG {α:Type}(sz:Nat) (enc:α->List Value) (h:aq) (base:Nat) (t:TypeId) (v:Value) (xs:List α):Prop:=aB h base t sz v xs.length (xs.flatMap enc)
theorem fG.of {enc:α->List Value}{xs:List α}{y:α}{n:Nat}{news:List Value}(k:aB h base t sz v (n+1) (xs.flatMap enc++news)) (J:n=xs.length) (I:news=enc y):fG sz enc h base t v (xs++[y]):=by
 unfold fG;subst J I;simpa using k
theorem fG.nil {α:Type}(sz:Nat) (enc:α->List Value) (h:aq) (base:Nat) (t:TypeId):fG sz enc h base t (.slice none 0 0) []:=aB.nil h base t sz
theorem fG.ah {enc:α->List Value}{xs:List α}(k:fG sz enc h base t v xs) (e:aj h h'):fG sz enc h' base t v xs:=aB.ext e k (λ_ _ k=>k)
theorem fG.read {pos:0<sz}{enc:α->List Value} {hl:∀x,(enc x).length=sz} {h1:∀x,∀v∈enc x,v.oneCell'=true}{O:Nat->Prop}{xs:List α}(k:fG sz enc h base t v xs) (I:∀b,base<=b->¬O b):aL (.record sz pos enc hl h1) h O v xs:=aB.NW k I
end
end Go.Lw
