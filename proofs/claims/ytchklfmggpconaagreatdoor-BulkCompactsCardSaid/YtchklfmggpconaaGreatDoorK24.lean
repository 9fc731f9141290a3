import Derived.Test.YtchklfmggpconaaGreatDoorK21
import Derived.Deep.RegionLawGrows
namespace Go.Proofs.YtchklfmggpconaaGreatDoor
open Go.RowKit
theorem Sl.flat{α:Type}{G:Nat->Prop}{w:World}{sz:Nat}{enc:α->List Value}(henc:∀x,(enc x).length=sz)(hsz:0<sz){ad:Addr}{n c:Nat}{m:List α}(hs:Sl G w sz enc (.slice (some ad) n c) m):∀j u,(m.flatMap enc)[j]? = some u->w.cell? (ad.add j)=some u:=by
 intro j u hu;obtain⟨a',c',he,_,_,_,s4⟩:=hs;injection he with he _ _;subst he;rcases s4 with h|⟨b,off,h,hbl,hF,hc⟩
 .subst h;simp at hu
 .injection h with h;subst h;have hj:j<m.length * sz:=by rw[<- jE henc m];exact (uB.1 hu).1
  have hq:j / sz<m.length:=by rw[Nat.div_lt_iff_lt_mul hsz];exact hj
  have hr:j % sz<(enc m[j / sz]).length:=by rw[henc];exact nX _ hsz
  have hji:j / sz * sz+j % sz=j:=by rw[Nat.mul_comm];exact Nat.div_add_mod j sz
  have h1:=zBr henc m (j / sz) m[j / sz] (j % sz) (enc m[j / sz])[j % sz] (by simp[hq]) (by simp[hr]);rw[hji,hu] at h1;injection h1 with h1;have h2:=hc (j / sz) m[j / sz] (by simp[hq]) (j % sz) (enc m[j / sz])[j % sz] (by simp[hr]);rw[<- h1,rW,hji] at h2;have hplain:(⟨b,off,none⟩:Addr).add j=⟨b,off+j,none⟩:=by unfold Addr.add;split <;> simp_all
  rw[hplain];exact h2
theorem zHj{P:Program}{α:Type}{F G:Nat->Prop}{w:World}{t e:TypeId}{z:Value}{sz bytes:Nat}{enc:α->List Value}(T:ElT P t e z sz bytes)(E:zBo enc sz)
  {ops:Array Oper} {o:Oper} {a:Act} {K:Act->World->Prop} {Q:Exit->Act->World->Prop} {X:Prop} (hgd:o.guard=none) (sx x:Operand)
  (ho:o.op=.call { callee:=.builtin .append,args:=#[sx,x],argTypes:=#[t,t] })
  (base:Nat) (s:Value) (l r m:List α) (g n c:Nat) (hv:a.eval sx=.slice (some ⟨g,0,none⟩) l.length l.length) (hx:a.eval x=s) (hown:zU F w base e sz enc (.slice (some ⟨g,0,none⟩) n c) (l++r)) (hs:Sl G w sz enc s m) (hm:0<m.length) (hb:(l.length+m.length) * bytes<=140737488355328)
  (h:∀a' c' w',zU (λ_=>False) w' w.heap.size e sz enc (.slice a' (l.length+m.length) c') (l++m)->zJ w w'->K (a.put o.dst (.slice a' (l.length+m.length) c')) w') :
  if Region.wanted o (yielded ops a.tmps)=true then Oper.wp P o a w K Q else X:=by
 obtain⟨i,hi,hz,hs1,hb1⟩:=zD1 T.info;have h63:l.length+m.length<=maxLen:=by
  have:=r9 (l.length+m.length) T.by0;simp only[maxLen];omega
 obtain⟨ad,cc,rfl,s1,s2,s3,s4⟩:=id hs;obtain⟨b,rfl⟩:∃b,ad=some b:=by
  rcases s4 with h|⟨b,off,h,_⟩
  .rw[h] at hm;simp at hm
  .exact⟨_,h⟩
 refine step_append_grows hgd sx x t ho e i z sz bytes T.under hi hz hs1 hb1 T.zs T.sz0 (some ⟨g,0,none⟩) l.length l.length (l.flatMap enc) hv (by simp) (jE E.len l) ?_ b m.length cc (m.flatMap enc) hx (jE E.len m) (hs.flat E.len T.sz0) (λu hu=>by obtain⟨y,_,hy⟩:=List.mem_flatMap.1 hu;exact E.one y u hy) (by omega) h63 hb ?_
 .intro b hb' j u hu;injection hb' with hb';subst hb';refine hown.1.cells (g:=g) rfl j u ?_;rw[tJ,uY (uB.1 hu).1];exact hu
 .intro v' w' ho' hg';have hO:zU (λ_=>False) w' w.heap.size e sz enc v' (l++m):=⟨by simpa using ho',λ_ _ f=>f⟩;obtain⟨a',c',hv',_⟩:=hO.form;rw[uC] at hv';subst hv';exact h a' c' w' hO ((zA.of_grown hg').mono (λk hk=>by simp at hk))
theorem Sl.duo{α:Type}{F:Nat->Prop}{w:World}{sz:Nat}{enc:α->List Value}{x y:α}{b:Nat}{t:TypeId}{fz:Nat × Nat}(h:w.heap[b]? = some (.cells (enc x++enc y).toArray t fz))(hx:(enc x).length=sz)(hF:¬ F b) :
  Sl F w sz enc (.slice (some ⟨b,0,none⟩) 2 2) [x,y]:=by
 refine⟨_,2,rfl,uJ _,by simp[maxLen],by simp,.inr ⟨b,0,rfl,(tH.1 h).1,hF,λi z hi j u hu=>?_⟩⟩;match i,hi with
 | 0,hi =>
  simp at hi;subst hi;rw[qH h];have hj:j<(enc x).length:=(uB.1 hu).1;simp only[pC,pW,uR,uY hj];exact hu
 | 1,hi =>
  simp at hi;subst hi;rw[qH h];simp only[pC,Nat.one_mul,uR];rw[wJ (by omega)];rw[<- hu];congr 1;omega
end Go.Proofs.YtchklfmggpconaaGreatDoor
